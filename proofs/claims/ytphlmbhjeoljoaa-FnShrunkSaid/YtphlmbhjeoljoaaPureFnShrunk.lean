/- Drawn messages that are shrunk do the same to any map, and are no more; shrunk again they are the same: no conditions. -/
import Derived.Test.YtphlmbhjeoljoaaOpnFnShrunk
import Derived.Test.YtphlmbhjeoljoaaPFnShrunkx
namespace Go.Proofs.Ytphlmbhjeoljoaa.Pure
open Go.RowKit Go.Proofs.Ytphlmbhjeoljoaa.PFnShrunk Go.Proofs.YtphlmbhjeoljoaaW.PrintWords Go.Proofs.YtphlmbhjeoljoaaW.PrintLast Go.Proofs.YtphlmbhjeoljoaaW.PrintMore Go.Proofs.Ytphlmbhjeoljoaa.OpnFnShrunk

theorem w64 {x : Int} (h0 : -9223372036854775808 ≤ x) (h1 : x ≤ 9223372036854775807) : wrap64 x = x := by
  unfold wrap64
  omega

theorem wf_i64 {a : Int} (h : (Lit.int .i64 a).wf = true) : -9223372036854775808 ≤ a ∧ a ≤ 9223372036854775807 := by
  simp [Lit.wf] at h
  have h1 : IntKind.min .i64 = -9223372036854775808 := by decide
  have h2 : IntKind.max .i64 = 9223372036854775807 := by decide
  omega


/-- From some number of rounds on, f tells v. -/
def Ev {α : Type} (f : Nat → Option α) (v : α) : Prop := ∃ k0, ∀ k, k0 ≤ k → f k = some v
theorem ev_of {α : Type} {f : Nat → Option α} {v : α} (n : Nat) (h : ∀ k, n < k → f k = some v) : Ev f v := ⟨n + 1, fun k hk => h k (by omega)⟩
theorem ev_all {α : Type} {f : Nat → Option α} {v : α} (h : ∀ k, f k = some v) : Ev f v := ⟨0, fun k _ => h k⟩
theorem ev_some {α : Type} (v : α) : Ev (fun _ => some v) v := ⟨0, fun _ _ => rfl⟩
theorem ev_eq {α : Type} {f : Nat → Option α} {v u : α} (h : Ev f v) (e : v = u) : Ev f u := e ▸ h
theorem ev_bind {α β : Type} {f : Nat → Option α} {g : Nat → α → Option β} {a : α} {b : β} (hf : Ev f a) (hg : Ev (fun k => g k a) b) : Ev (fun k => (f k).bind (g k)) b := by
  obtain ⟨m, hm⟩ := hf
  obtain ⟨n, hn⟩ := hg
  refine ⟨m + n, fun k hk => ?_⟩
  show (f k).bind (g k) = _
  rw [hm k (by omega)]
  exact hn k (by omega)
theorem ev_step {α : Type} {f g : Nat → Option α} {v : α} (e : ∀ k, f (k + 1) = g k) (h : Ev g v) : Ev f v := by
  obtain ⟨n, hn⟩ := h
  refine ⟨n + 1, fun k hk => ?_⟩
  obtain ⟨k, rfl⟩ : ∃ m, k = m + 1 := ⟨k - 1, by omega⟩
  rw [e]; exact hn k (by omega)
theorem ev_pos {α : Type} {f g : Nat → Option α} {v : α} {c : Prop} [Decidable c] (hc : c) (h : Ev f v) : Ev (fun k => if c then f k else g k) v := by simpa only [if_pos hc] using h
theorem ev_neg {α : Type} {f g : Nat → Option α} {v : α} {c : Prop} [Decidable c] (hc : ¬ c) (h : Ev g v) : Ev (fun k => if c then f k else g k) v := by simpa only [if_neg hc] using h
theorem ev_tt {α : Type} {f g : Nat → Option α} {v : α} (h : Ev f v) : Ev (fun k => if true = true then f k else g k) v := ev_pos rfl h

theorem drop_Pair (l : List S147) (i : Int) (h0 : 0 ≤ i) (h1 : i < l.length) : l.drop i.toNat = rd_T147 l i :: l.drop (i + 1).toNat := by
  rw [List.drop_eq_getElem_cons (by omega)]
  congr 1
  · unfold rd_T147
    rw [List.getD_eq_getElem?_getD, List.getElem?_eq_getElem (by omega)]
    rfl
  · congr 1
    omega

theorem drop_Msg (l : List S67) (i : Int) (h0 : 0 ≤ i) (h1 : i < l.length) : l.drop i.toNat = rd_T67 l i :: l.drop (i + 1).toNat := by
  rw [List.drop_eq_getElem_cons (by omega)]
  congr 1
  · unfold rd_T67
    rw [List.getD_eq_getElem?_getD, List.getElem?_eq_getElem (by omega)]
    rfl
  · congr 1
    omega

/-- From lo to hi. -/
def inR (a lo hi : Int) : Bool := decide (lo ≤ a) && decide (a ≤ hi)

theorem spec_in (a lo hi : Int) : spec_l1In.f a lo hi = some (inR a lo hi) := by
  unfold spec_l1In.f inR
  by_cases h : a ≥ lo
  · rw [if_pos h]; simp [h]
  · rw [if_neg h]; simp; omega

theorem spec_value (a : Int) : spec_l1Value.f a = some (inR a (-1000000000) 1000000000) := by
  unfold spec_l1Value.f
  rw [spec_in]; rfl

theorem impl_in (a lo hi : Int) : impl_within.f a lo hi = some (inR a lo hi) := by
  unfold impl_within.f inR
  by_cases h : a ≥ lo
  · rw [if_pos h]; simp [h]
  · rw [if_neg h]; simp; omega

theorem impl_key (a : Int) : impl_isKey.f a = some (inR a 0 999) := by
  unfold impl_isKey.f
  rw [impl_in]; rfl

theorem impl_num (a : Int) : impl_isNum.f a = some (inR a (-1000000000) 1000000000) := by
  unfold impl_isNum.f
  rw [impl_in]; rfl

/-- Pairs behind a key: ascending, each right. -/
def okFrom (prev : Int) : List S147 → Bool
  | [] => true
  | p :: r => inR p.f0 0 999 && inR p.f1 (-1000000000) 1000000000 && decide (prev < p.f0) && okFrom p.f0 r
def mapOk (l : List S147) : Bool := okFrom (-1) l

theorem okFrom_low (prev : Int) (hp : prev < 0) (l : List S147) : okFrom prev l = okFrom (-1) l := by
  cases l with
  | nil => rfl
  | cons p r =>
    simp only [okFrom]
    by_cases h : inR p.f0 0 999 = true
    · have : 0 ≤ p.f0 := by simp [inR] at h; omega
      simp [h, show prev < p.f0 by omega, show -1 < p.f0 by omega]
    · simp [h]
/-- The key ahead of place i. -/
def keyAhead (l : List S147) (i : Int) : Int := if i = 0 then -1 else (rd_T147 l (i - 1)).f0

theorem impl_mapok_l0 (l : List S147) (hl : l.length ≤ 140737488355328) (d : Nat) : ∀ (k : Nat) (i : Int), 0 ≤ i → i ≤ l.length → (l.length : Int) - i = d → d < k → impl_MapOk.l0 k l l l.length i = some (okFrom (keyAhead l i) (l.drop i.toNat)) := by
  induction d with
  | zero =>
    intro k i h0 h1 hd hk
    obtain ⟨k, rfl⟩ : ∃ m, k = m + 1 := ⟨k - 1, by omega⟩
    simp only [impl_MapOk.l0]; rw [if_neg (by omega), List.drop_of_length_le (by omega)]
    rfl
  | succ d ih =>
    intro k i h0 h1 hd hk
    obtain ⟨k, rfl⟩ : ∃ m, k = m + 1 := ⟨k - 1, by omega⟩
    have hn := ih k (i + 1) (by omega) (by omega) (by omega) (by omega)
    have hk1 : keyAhead l (i + 1) = (rd_T147 l i).f0 := by unfold keyAhead; rw [if_neg (by omega)]; congr 2; omega
    rw [hk1] at hn
    rw [drop_Pair l i h0 (by omega)]
    simp only [impl_MapOk.l0, okFrom]
    rw [if_pos (by omega), if_pos h0]
    rw [if_pos (by omega)]
    simp only [impl_key, impl_num, Option.bind_some]
    rw [w64 (x := i + 1) (by omega) (by omega), hn]
    by_cases ha : inR (rd_T147 l i).f0 0 999 = true
    · rw [if_pos ha]
      by_cases hb : inR (rd_T147 l i).f1 (-1000000000) 1000000000 = true
      · rw [if_pos hb, ha, hb]
        by_cases hi : i > 0
        · rw [if_pos hi, w64 (x := i - 1) (by omega) (by omega), if_pos (by omega), if_pos (by omega)]
          have hka : keyAhead l i = (rd_T147 l (i - 1)).f0 := by unfold keyAhead; rw [if_neg (by omega)]
          rw [hka]
          by_cases hc : (rd_T147 l (i - 1)).f0 ≥ (rd_T147 l i).f0
          · rw [if_pos hc]; simp; omega
          · rw [if_neg hc]; simp; omega
        · rw [if_neg hi]
          have hka : keyAhead l i = -1 := by unfold keyAhead; rw [if_pos (by omega)]
          rw [hka]
          have : 0 ≤ (rd_T147 l i).f0 := by simp [inR] at ha; omega
          simp; omega
      · rw [if_neg hb]; simp [hb]
    · rw [if_neg ha]; simp [ha]

theorem impl_mapok (l : List S147) (hl : l.length ≤ 140737488355328) (k : Nat) (hk : l.length < k) : impl_MapOk.f k l = some (mapOk l) := by
  unfold impl_MapOk.f
  exact impl_mapok_l0 l hl l.length k 0 (by omega) (by omega) (by omega) (by omega)

/-- MsgOk, as the document says it. -/
def msgOk (op k v : Int) : Bool := inR op 1 4 && inR k 0 999 && inR v (-1000000000) 1000000000 && (decide (v = 0) || decide (op = 1) || decide (op = 3))

theorem spec_msgok (op k v : Int) : spec_MsgOk.f op k v = some (msgOk op k v) := by
  unfold spec_MsgOk.f msgOk
  simp only [spec_in, spec_value, Option.bind_some]
  cases inR op 1 4 <;> cases inR k 0 999 <;> cases inR v (-1000000000) 1000000000 <;> simp
  by_cases h : v = 0 <;> by_cases h1 : op = 1 <;> by_cases h3 : op = 3 <;> simp_all

theorem impl_msgok (op k v : Int) (n : Nat) (hn : 1 < n) : impl_MsgOk.f n op k v = some (msgOk op k v) := by
  obtain ⟨n, rfl⟩ : ∃ m, n = m + 1 := ⟨n - 1, by omega⟩
  unfold impl_MsgOk.f msgOk
  simp only [impl_key, impl_num, impl_MsgOk.j0, Option.bind_some]
  have e1 : inR 1 1 4 = true := rfl
  have e2 : inR 2 1 4 = true := rfl
  have e3 : inR 3 1 4 = true := rfl
  have e4 : inR 4 1 4 = true := rfl
  have e0 : inR 0 (-1000000000) 1000000000 = true := rfl
  by_cases h1 : op = 1
  · subst h1
    cases inR k 0 999 <;> simp [e1]
  · by_cases h3 : op = 3
    · subst h3
      cases inR k 0 999 <;> simp [e3]
    · by_cases h2 : op = 2
      · subst h2
        by_cases hv : v = 0
        · subst hv; cases inR k 0 999 <;> simp [e2, e0]
        · cases inR k 0 999 <;> simp [hv]
      · by_cases h4 : op = 4
        · subst h4
          by_cases hv : v = 0
          · subst hv; cases inR k 0 999 <;> simp [e4, e0]
          · cases inR k 0 999 <;> simp [hv]
        · have : inR op 1 4 = false := by
            unfold inR
            simp; omega
          simp [this, h1, h2, h3, h4]

/-- The place of the first pair of a key, from place i on; -1 without it. -/
def idxFrom (a : Int) : List S147 → Int → Int
  | [], _ => -1
  | p :: r, i => if p.f0 = a then i else idxFrom a r (i + 1)
theorem idxFrom_cases (l : List S147) (a : Int) (d : Nat) : ∀ (i : Int), 0 ≤ i → i ≤ l.length → (l.length : Int) - i = d → idxFrom a (l.drop i.toNat) i = -1 ∨ (i ≤ idxFrom a (l.drop i.toNat) i ∧ idxFrom a (l.drop i.toNat) i < l.length ∧ (rd_T147 l (idxFrom a (l.drop i.toNat) i)).f0 = a) := by
  induction d with
  | zero => intro i h0 h1 hd; rw [List.drop_of_length_le (by omega)]; exact .inl rfl
  | succ d ih =>
    intro i h0 h1 hd
    have h := ih (i + 1) (by omega) (by omega) (by omega)
    rw [drop_Pair l i h0 (by omega)]
    simp only [idxFrom]
    by_cases ha : (rd_T147 l i).f0 = a
    · rw [if_pos ha]; exact .inr ⟨by omega, by omega, ha⟩
    · rw [if_neg ha]
      rcases h with h | ⟨x, y, z⟩
      · exact .inl h
      · exact .inr ⟨by omega, y, z⟩
def pairAt (l : List S147) (a : Int) : Int := idxFrom a l 0

/-- What a map tells of a key. -/
def mapGet (l : List S147) (a : Int) : Int × Bool := if pairAt l a < 0 then (0, false) else ((rd_T147 l (pairAt l a)).f1, true)
def getAt (l : List S147) (j : Int) : Int × Bool := if j < 0 then (0, false) else ((rd_T147 l j).f1, true)

def clampN (x : Int) : Int := if (if x < 1000000000 then x else 1000000000) > -1000000000 then (if x < 1000000000 then x else 1000000000) else -1000000000

/-- A key given a value in a map, as the reference does it: place by place. -/
def putFrom (a v : Int) : Bool → List S147 → List S147
  | put, [] => if put then [] else [⟨a, v⟩]
  | put, p :: r => (if put then [] else if p.f0 ≥ a then [⟨a, v⟩] else []) ++ (if p.f0 = a then [] else [p]) ++ putFrom a v (put || decide (p.f0 ≥ a)) r
/-- A map without a key. -/
def without (a : Int) : List S147 → List S147
  | [] => []
  | p :: r => if p.f0 = a then without a r else p :: without a r
/-- A right map behind a right message. -/
def changedBy (op a v : Int) (l : List S147) : List S147 :=
  if op = 1 then putFrom a v false l else if op = 2 then without a l else if op = 3 then putFrom a (clampN ((mapGet l a).1 + v)) false l else l
def mapDo (l : List S147) (op a v : Int) : List S147 := if mapOk l = true ∧ msgOk op a v = true then changedBy op a v l else l
/-- How many pairs stand ahead of a key. -/
def cutAt (a : Int) : List S147 → Nat
  | [] => 0
  | p :: r => if p.f0 < a then cutAt a r + 1 else 0
theorem cutAt_le (a : Int) (l : List S147) : cutAt a l ≤ l.length := by
  induction l with
  | nil => simp [cutAt]
  | cons p r ih =>
    simp only [cutAt, List.length_cons]
    split <;> omega
theorem okFrom_up {prev prev' : Int} (h : prev' ≤ prev) (l : List S147) (hl : okFrom prev l = true) : okFrom prev' l = true := by
  cases l with
  | nil => rfl
  | cons p r =>
    simp only [okFrom, Bool.and_eq_true, decide_eq_true_eq] at hl ⊢
    exact ⟨⟨hl.1.1, by omega⟩, hl.2⟩
theorem okFrom_gt {prev : Int} (l : List S147) (hl : okFrom prev l = true) : ∀ q ∈ l, prev < q.f0 ∧ 0 ≤ q.f0 ∧ q.f0 ≤ 999 ∧ -1000000000 ≤ q.f1 ∧ q.f1 ≤ 1000000000 := by
  induction l generalizing prev with
  | nil => intro q hq; cases hq
  | cons p r ih =>
    intro q hq
    simp only [okFrom, Bool.and_eq_true, decide_eq_true_eq, inR] at hl
    rcases List.mem_cons.1 hq with rfl | hq
    · omega
    · have := ih hl.2 q hq
      omega
theorem rd_P_mem (l : List S147) (i : Int) (h0 : 0 ≤ i) (h1 : i < l.length) : rd_T147 l i ∈ l := by
  unfold rd_T147
  rw [List.getD_eq_getElem?_getD, List.getElem?_eq_getElem (by omega)]
  exact List.getElem_mem _
theorem cutAt_iff {prev : Int} (a : Int) (l : List S147) (hl : okFrom prev l = true) : ∀ i : Nat, i < l.length → ((rd_T147 l i).f0 < a ↔ i < cutAt a l) := by
  induction l generalizing prev with
  | nil => intro i hi; simp at hi
  | cons p r ih =>
    intro i hi
    have hl2 : okFrom p.f0 r = true := by simp only [okFrom, Bool.and_eq_true] at hl; exact hl.2
    simp only [cutAt]
    cases i with
    | zero =>
      show p.f0 < a ↔ _
      split <;> omega
    | succ i =>
      have hr : rd_T147 (p :: r) ((i + 1 : Nat) : Int) = rd_T147 r (i : Nat) := rfl
      rw [hr]
      have h := ih hl2 i (by simpa using hi)
      split
      · rw [h]; omega
      · have := okFrom_gt r hl2 _ (rd_P_mem r (i : Nat) (by omega) (by simp at hi; omega))
        omega
/-- Whether a key is in a right map. -/
def foundAt (a : Int) (l : List S147) : Bool := decide (cutAt a l < l.length) && decide ((rd_T147 l (cutAt a l : Nat)).f0 = a)
theorem foundAt_cons (a : Int) (p : S147) (r : List S147) : foundAt a (p :: r) = if p.f0 < a then foundAt a r else decide (p.f0 = a) := by
  unfold foundAt
  by_cases h : p.f0 < a
  · have hc : cutAt a (p :: r) = cutAt a r + 1 := by simp only [cutAt, if_pos h]
    have hr : rd_T147 (p :: r) ((cutAt a r + 1 : Nat) : Int) = rd_T147 r (cutAt a r : Nat) := rfl
    simp only [hc, hr, if_pos h]
    simp
  · have hc : cutAt a (p :: r) = 0 := by simp only [cutAt, if_neg h]
    have hr : rd_T147 (p :: r) ((0 : Nat) : Int) = p := rfl
    simp only [hc, hr, if_neg h]
    simp
theorem putFrom_done (a v : Int) (l : List S147) (h : ∀ q ∈ l, q.f0 ≠ a) : putFrom a v true l = l := by
  induction l with
  | nil => rfl
  | cons p r ih =>
    simp only [putFrom, if_true, Bool.true_or, List.nil_append]
    rw [if_neg (h p (by simp)), ih (fun q hq => h q (by simp [hq]))]
    rfl
theorem putFrom_sorted {prev : Int} (a v : Int) (l : List S147) (hl : okFrom prev l = true) : putFrom a v false l = if foundAt a l = true then l.set (cutAt a l) ⟨(rd_T147 l (cutAt a l : Nat)).f0, v⟩ else l.take (cutAt a l) ++ [⟨a, v⟩] ++ l.drop (cutAt a l) := by
  induction l generalizing prev with
  | nil => rfl
  | cons p r ih =>
    have hl2 : okFrom p.f0 r = true := by simp only [okFrom, Bool.and_eq_true] at hl; exact hl.2
    have hg := okFrom_gt r hl2
    rw [foundAt_cons]
    simp only [putFrom, cutAt, Bool.false_or, Bool.false_eq_true, if_false]
    by_cases h : p.f0 < a
    · rw [if_neg (show ¬ p.f0 ≥ a by omega), if_neg (show ¬ p.f0 = a by omega), if_pos h, if_pos h, show decide (p.f0 ≥ a) = false by simp; omega, ih hl2]
      have hr : rd_T147 (p :: r) ((cutAt a r + 1 : Nat) : Int) = rd_T147 r (cutAt a r : Nat) := rfl
      rw [hr]
      split <;> simp
    · rw [if_pos (show p.f0 ≥ a by omega), if_neg h, if_neg h, show decide (p.f0 ≥ a) = true by simp; omega, putFrom_done a v r (fun q hq => by have := hg q hq; omega)]
      have hr : rd_T147 (p :: r) ((0 : Nat) : Int) = p := rfl
      by_cases he : p.f0 = a
      · subst he
        rw [if_pos rfl, if_pos (by simp), hr]
        simp
      · rw [if_neg he, if_neg (by simpa using he)]
        simp
theorem without_sorted {prev : Int} (a : Int) (l : List S147) (hl : okFrom prev l = true) : without a l = if foundAt a l = true then l.eraseIdx (cutAt a l) else l := by
  induction l generalizing prev with
  | nil => rfl
  | cons p r ih =>
    have hl2 : okFrom p.f0 r = true := by simp only [okFrom, Bool.and_eq_true] at hl; exact hl.2
    have hg := okFrom_gt r hl2
    rw [foundAt_cons]
    simp only [without, cutAt]
    by_cases h : p.f0 < a
    · rw [if_neg (show ¬ p.f0 = a by omega), if_pos h, if_pos h, ih hl2]
      split <;> simp
    · rw [if_neg h, if_neg h, ih hl2]
      have hn : foundAt a r = false := by
        unfold foundAt
        by_cases hc : cutAt a r < r.length
        · have := hg _ (rd_P_mem r (cutAt a r : Nat) (by omega) (by omega))
          simp [hc]; omega
        · simp [hc]
      rw [hn]
      by_cases he : p.f0 = a
      · simp [he]
      · simp [he]
theorem mapGet_sorted {prev : Int} (a : Int) (l : List S147) (hl : okFrom prev l = true) : mapGet l a = if foundAt a l = true then ((rd_T147 l (cutAt a l : Nat)).f1, true) else (0, false) := by
  have key : ∀ (l : List S147) (prev : Int) (i : Int), okFrom prev l = true → idxFrom a l i = if foundAt a l = true then i + cutAt a l else -1 := by
    intro l
    induction l with
    | nil => intro prev i _; rfl
    | cons p r ih =>
      intro prev i hl
      have hl2 : okFrom p.f0 r = true := by simp only [okFrom, Bool.and_eq_true] at hl; exact hl.2
      have hg := okFrom_gt r hl2
      rw [foundAt_cons]
      simp only [idxFrom, cutAt]
      by_cases h : p.f0 < a
      · rw [if_neg (show ¬ p.f0 = a by omega), if_pos h, if_pos h, ih p.f0 (i + 1) hl2]
        split <;> simp; omega
      · rw [if_neg h, if_neg h, ih p.f0 (i + 1) hl2]
        have hn : foundAt a r = false := by
          unfold foundAt
          by_cases hc : cutAt a r < r.length
          · have := hg _ (rd_P_mem r (cutAt a r : Nat) (by omega) (by omega))
            simp [hc]; omega
          · simp [hc]
        rw [hn]
        by_cases he : p.f0 = a
        · simp [he]
        · simp [he]
  unfold mapGet pairAt
  rw [key l prev 0 hl]
  by_cases hf : foundAt a l = true
  · rw [if_pos hf, if_pos hf, if_neg (by omega), show (0 : Int) + (cutAt a l : Int) = ((cutAt a l : Nat) : Int) by omega]
  · rw [if_neg hf, if_neg hf, if_pos (by omega)]
theorem putFrom_len (a v : Int) (l : List S147) : ∀ b : Bool, (putFrom a v b l).length ≤ l.length + (if b = true then 0 else 1) := by
  induction l with
  | nil => intro b; cases b <;> simp [putFrom]
  | cons p r ih =>
    intro b
    have h2 : (if p.f0 = a then [] else [p]).length ≤ 1 := by split <;> simp
    cases b with
    | true =>
      have h := ih true
      simp only [putFrom, if_true, Bool.true_or, List.length_append, List.length_cons, List.length_nil] at h ⊢
      omega
    | false =>
      by_cases hc : p.f0 ≥ a
      · have h := ih true
        simp only [putFrom, Bool.false_or, Bool.false_eq_true, if_false, if_pos hc, decide_eq_true hc, if_true, List.length_append, List.length_cons, List.length_nil] at h ⊢
        omega
      · have h := ih false
        simp only [putFrom, Bool.false_or, Bool.false_eq_true, if_false, if_neg hc, decide_eq_false hc, List.length_append, List.length_cons, List.length_nil] at h ⊢
        omega
theorem without_len (a : Int) (l : List S147) : (without a l).length ≤ l.length := by
  induction l with
  | nil => simp [without]
  | cons p r ih =>
    simp only [without]
    split
    · simp; omega
    · simp; omega
theorem mapDo_len (l : List S147) (op a v : Int) : (mapDo l op a v).length ≤ l.length + 1 := by
  unfold mapDo changedBy
  by_cases h : mapOk l = true ∧ msgOk op a v = true
  · rw [if_pos h]
    have h1 := putFrom_len a v l false
    have h2 := putFrom_len a (clampN ((mapGet l a).1 + v)) l false
    simp only [Bool.false_eq_true, if_false] at h1 h2
    have h3 := without_len a l
    split
    · exact h1
    · split
      · omega
      · split <;> omega
  · rw [if_neg h]
    omega

theorem spec_clamp (x : Int) : spec_l1Clamp.f x = some (clampN x) := by
  unfold spec_l1Clamp.f spec_l1Min.f spec_l1Max.f clampN
  by_cases h : x < 1000000000
  · simp only [if_pos h, Option.bind_some]
    split <;> rfl
  · simp only [if_neg h, Option.bind_some]
    rfl

theorem spec_put_l0 (l : List S147) (a v : Int) : ∀ (d : Nat) (out : List S147) (put : Bool) (i : Int), 0 ≤ i → i ≤ l.length → (l.length : Int) - i = d → l.length ≤ 140737488355328 → out.length + 2 * d + 2 ≤ 8796093022207 → Ev (fun k => spec_l1Put.l0 k l a v out put i) (out ++ putFrom a v put (l.drop i.toNat)) := by
  intro d
  induction d with
  | zero =>
    intro out put i h0 h1 hd hl ho
    rw [List.drop_of_length_le (by omega)]
    refine ev_step (fun k => by simp only [spec_l1Put.l0]; exact rfl) ?_
    refine ev_neg (by omega) ?_
    cases put with
    | true => exact ev_pos rfl (ev_eq (ev_some _) (by simp [putFrom]))
    | false => exact ev_neg (by simp) (ev_pos (by omega) (ev_some _))
  | succ d ih =>
    intro out put i h0 h1 hd hl ho
    rw [drop_Pair l i h0 (by omega)]
    have wi : wrap64 (i + 1) = i + 1 := w64 (by omega) (by omega)
    have go : ∀ (out : List S147) (put : Bool), out.length + 2 * d + 2 ≤ 8796093022207 → Ev (fun k => spec_l1Put.l0 k l a v out put (i + 1)) (out ++ putFrom a v put (l.drop (i + 1).toNat)) := fun out put h => ih out put (i + 1) (by omega) (by omega) (by omega) hl h
    have eta : (⟨(rd_T147 l i).f0, (rd_T147 l i).f1⟩ : S147) = rd_T147 l i := rfl
    have tail : ∀ (out : List S147) (put : Bool), out.length + 2 * d + 3 ≤ 8796093022207 → Ev (fun k => if (rd_T147 l i).f0 = a then spec_l1Put.l0 k l a v out put (i + 1) else if out.length < 8796093022208 then spec_l1Put.l0 k l a v (out ++ [rd_T147 l i]) put (i + 1) else none) (out ++ ((if (rd_T147 l i).f0 = a then [] else [rd_T147 l i]) ++ putFrom a v put (l.drop (i + 1).toNat))) := by
      intro out put h
      by_cases he : (rd_T147 l i).f0 = a
      · refine ev_pos he ?_
        rw [if_pos he, List.nil_append]
        exact go out put (by omega)
      · refine ev_neg he ?_
        rw [if_neg he, ← List.append_assoc]
        refine ev_pos (by omega) ?_
        exact go _ put (by simp; omega)
    have e1 : ∀ (b : Bool), (decide ((rd_T147 l i).f0 ≥ a) = b) → Ev (fun k => spec_l1Put.j1 k l a v out false i b) (out ++ putFrom a v false (rd_T147 l i :: l.drop (i + 1).toNat)) := by
      intro b hb
      refine ev_step (fun k => by simp only [spec_l1Put.j1, wi, eta]; exact rfl) ?_
      simp only [putFrom, Bool.false_or, Bool.false_eq_true, if_false, hb]
      cases b with
      | true =>
        refine ev_pos rfl ?_
        refine ev_pos (by omega) ?_
        refine ev_bind (ev_some _) ?_
        refine ev_pos h0 ?_
        refine ev_pos (by omega) ?_
        rw [if_pos (by simpa using hb)]
        have h := tail (out ++ [⟨a, v⟩]) true (by simp; omega)
        simp only [List.append_assoc] at h ⊢
        exact h
      | false =>
        refine ev_neg (by simp) ?_
        refine ev_pos h0 ?_
        refine ev_pos (by omega) ?_
        rw [if_neg (by simpa using hb), List.nil_append]
        exact tail out false (by omega)
    refine ev_step (fun k => by simp only [spec_l1Put.l0]; exact rfl) ?_
    refine ev_pos (by omega) ?_
    cases put with
    | true =>
      refine ev_pos rfl ?_
      refine ev_step (fun k => by simp only [spec_l1Put.j1, wi, eta]; exact rfl) ?_
      refine ev_neg (by simp) ?_
      refine ev_pos h0 ?_
      refine ev_pos (by omega) ?_
      simp only [putFrom, if_true, Bool.true_or, List.nil_append]
      exact tail out true (by omega)
    | false =>
      refine ev_neg (by simp) ?_
      refine ev_pos h0 ?_
      exact e1 _ rfl
theorem spec_put (l : List S147) (a v : Int) (hl : l.length ≤ 1048600) : Ev (fun k => spec_l1Put.f k l a v) (putFrom a v false l) := by
  unfold spec_l1Put.f
  exact spec_put_l0 l a v l.length [] false 0 (by omega) (by omega) (by omega) (by omega) (by simp; omega)

theorem impl_limit (x : Int) : impl_limited.f x = some (clampN x) := by
  unfold impl_limited.f clampN mx mn
  congr 1
  split <;> split <;> split <;> omega

theorem impl_bs_l0 (l : List S147) (a : Int) (ha : 0 ≤ a ∧ a ≤ 999) (hk : ∀ q ∈ l, 0 ≤ q.f0 ∧ q.f0 ≤ 999) (c : Nat) (hc : ∀ i : Nat, i < l.length → ((rd_T147 l i).f0 < a ↔ i < c)) (hcl : c ≤ l.length) (hl : l.length ≤ 1048600) :
    ∀ (d : Nat) (i j : Int), 0 ≤ i → i ≤ c → (c : Int) ≤ j → j ≤ l.length → j - i ≤ d → Ev (fun k => slices_BinarySearchFunc_Pair_171.l0 k l a l.length i j) ((c : Int), decide (c < l.length) && decide ((rd_T147 l (c : Nat)).f0 = a)) := by
  have last : Ev (fun k => slices_BinarySearchFunc_Pair_171.l0 k l a l.length c c) ((c : Int), decide (c < l.length) && decide ((rd_T147 l (c : Nat)).f0 = a)) := by
    refine ev_step (fun k => by simp only [slices_BinarySearchFunc_Pair_171.l0, impl_changed_f1.f, Option.bind_some]; exact rfl) ?_
    refine ev_neg (by omega) ?_
    by_cases h : c < l.length
    · refine ev_pos (by omega) ?_
      refine ev_pos (by omega) ?_
      refine ev_pos (by omega) ?_
      have hq := hk _ (rd_P_mem l (c : Nat) (by omega) (by omega))
      refine ev_eq (ev_some _) ?_
      rw [w64 (by omega) (by omega)]
      congr 1
      by_cases he : (rd_T147 l (c : Nat)).f0 = a
      · simp [h, he]
      · have : ¬ ((rd_T147 l (c : Nat)).f0 - a = 0) := by omega
        simp [he, this]
    · refine ev_neg (by omega) ?_
      exact ev_eq (ev_some _) (by simp [h])
  intro d
  induction d with
  | zero =>
    intro i j h0 h1 h2 h3 hd
    obtain rfl : i = c := by omega
    obtain rfl : j = c := by omega
    exact last
  | succ d ih =>
    intro i j h0 h1 h2 h3 hd
    by_cases hij : i < j
    · obtain ⟨m, hm⟩ : ∃ m : Nat, (i + j) / 2 = (m : Int) := ⟨((i + j) / 2).toNat, by omega⟩
      have hw : wrap64 ((IntKind.u64.wrap (wrap64 (i + j))) / 2) = (m : Int) := by
        rw [w64 (x := i + j) (by omega) (by omega), IntKind.wrap_u64, w64 (by omega) (by omega)]
        omega
      have hm1 : wrap64 ((m : Int) + 1) = (m : Int) + 1 := w64 (by omega) (by omega)
      refine ev_step (fun k => by simp only [slices_BinarySearchFunc_Pair_171.l0, impl_changed_f1.f, Option.bind_some, hw, hm1]; exact rfl) ?_
      refine ev_pos hij ?_
      refine ev_pos (by omega) ?_
      refine ev_pos (by omega) ?_
      have hq := hk _ (rd_P_mem l (m : Nat) (by omega) (by omega))
      have hlt := hc m (by omega)
      have hs : wrap64 ((rd_T147 l (m : Nat)).f0 - a) = (rd_T147 l (m : Nat)).f0 - a := w64 (by omega) (by omega)
      by_cases hx : (rd_T147 l (m : Nat)).f0 < a
      · refine ev_pos (by omega) ?_
        have := hlt.1 hx
        exact ih _ _ (by omega) (by omega) h2 h3 (by omega)
      · refine ev_neg (by omega) ?_
        have : ¬ m < c := fun h => hx (hlt.2 h)
        exact ih _ _ h0 h1 (by omega) (by omega) (by omega)
    · obtain rfl : i = c := by omega
      obtain rfl : j = c := by omega
      exact last
theorem impl_bs {prev : Int} (l : List S147) (a : Int) (ha : 0 ≤ a ∧ a ≤ 999) (ho : okFrom prev l = true) (hl : l.length ≤ 1048600) : Ev (fun k => slices_BinarySearchFunc_Pair_171.f k l a) ((cutAt a l : Int), foundAt a l) := by
  unfold slices_BinarySearchFunc_Pair_171.f
  have hle := cutAt_le a l
  exact impl_bs_l0 l a ha (fun q hq => by have := okFrom_gt l ho q hq; omega) (cutAt a l) (cutAt_iff a l ho) hle hl l.length 0 l.length (by omega) (by omega) (by omega) (by omega) (by omega)
theorem impl_del (l : List S147) (c : Nat) (h : c < l.length) (hl : l.length ≤ 1048600) : slices_Delete_Pair.f l (c : Int) (wrap64 ((c : Int) + 1)) = some (l.eraseIdx c) := by
  unfold slices_Delete_Pair.f
  rw [w64 (by omega) (by omega), if_pos (by omega), if_pos (by omega), if_pos rfl]
  rfl
theorem impl_ins (l : List S147) (c : Nat) (p : S147) (h : c ≤ l.length) (hl : l.length ≤ 1048600) : slices_Insert_Pair.f l (c : Int) [p] = some (l.take c ++ [p] ++ l.drop c) := by
  unfold slices_Insert_Pair.f
  rw [if_pos (by omega), if_pos (by omega), if_pos (show [p].length = 1 from rfl), if_pos (by omega)]
  rfl
theorem clampN_id (x : Int) (h0 : -1000000000 ≤ x) (h1 : x ≤ 1000000000) : clampN x = x := by
  unfold clampN
  split <;> split <;> omega
theorem impl_changed_ev (l : List S147) (op a v : Int) (ho : mapOk l = true) (hm : msgOk op a v = true) (hl : l.length ≤ 1048600) : Ev (fun k => impl_changed.f k l op a v) (changedBy op a v l) := by
  have hmm : (1 ≤ op ∧ op ≤ 4) ∧ (0 ≤ a ∧ a ≤ 999) ∧ (-1000000000 ≤ v ∧ v ≤ 1000000000) := by simp [msgOk, inR] at hm; omega
  obtain ⟨hop, ha, hv⟩ := hmm
  have hle := cutAt_le a l
  unfold impl_changed.f
  refine ev_bind (impl_bs l a ha ho hl) ?_
  unfold changedBy
  have eta : ∀ (x : Int), (⟨(rd_T147 l (cutAt a l : Nat)).f0, x⟩ : S147) = ⟨(rd_T147 l (cutAt a l : Nat)).f0, x⟩ := fun _ => rfl
  have put : ∀ (x : Int), (putFrom a x false l) = if foundAt a l = true then l.set (cutAt a l) ⟨(rd_T147 l (cutAt a l : Nat)).f0, x⟩ else l.take (cutAt a l) ++ [⟨a, x⟩] ++ l.drop (cutAt a l) := fun x => putFrom_sorted a x l ho
  by_cases h4 : op = 4
  · refine ev_pos h4 ?_
    rw [if_neg (by omega), if_neg (by omega), if_neg (by omega)]
    exact ev_some _
  refine ev_neg h4 ?_
  have hset : ((cutAt a l : Nat) : Int).toNat = cutAt a l := by omega
  by_cases h2 : op = 2
  · refine ev_pos h2 ?_
    rw [if_neg (by omega), if_pos h2, without_sorted a l ho]
    refine ev_step (fun k => by simp only [impl_changed.j0]; exact rfl) ?_
    by_cases hf : foundAt a l = true
    · have hc : cutAt a l < l.length := by simp [foundAt] at hf; omega
      refine ev_pos hf ?_
      rw [if_pos hf]
      exact ev_bind (ev_all (fun k => impl_del l _ hc hl)) (ev_some _)
    · refine ev_neg hf ?_
      rw [if_neg hf]
      exact ev_pos h2 (ev_some _)
  refine ev_neg h2 ?_
  refine ev_step (fun k => by simp only [impl_changed.j0]; exact rfl) ?_
  refine ev_neg (by simp) ?_
  refine ev_neg h2 ?_
  by_cases h3 : op = 3
  · refine ev_pos h3 ?_
    rw [if_neg (by omega), if_neg (by omega), if_pos h3, put, mapGet_sorted a l ho]
    refine ev_step (fun k => by simp only [impl_changed.j1]; exact rfl) ?_
    by_cases hf : foundAt a l = true
    · have hc : cutAt a l < l.length := by simp [foundAt] at hf; omega
      have hq := okFrom_gt l ho _ (rd_P_mem l (cutAt a l : Nat) (by omega) (by omega))
      refine ev_pos hf ?_
      refine ev_pos (by omega) ?_
      refine ev_pos (by omega) ?_
      refine ev_bind (ev_all (fun k => impl_limit _)) ?_
      refine ev_pos hf ?_
      rw [if_pos hf, if_pos hf]
      refine ev_eq (ev_some _) ?_
      simp only
      rw [w64 (by omega) (by omega), hset]
    · refine ev_neg hf ?_
      refine ev_neg hf ?_
      rw [if_neg hf, if_neg hf]
      refine ev_bind (ev_all (fun k => impl_ins l (cutAt a l) ⟨a, v⟩ hle hl)) (ev_eq (ev_some _) ?_)
      simp only
      rw [show (0 : Int) + v = v by omega, clampN_id v hv.1 hv.2]
  · refine ev_neg h3 ?_
    have h1 : op = 1 := by omega
    rw [if_pos h1, put]
    refine ev_step (fun k => by simp only [impl_changed.j1]; exact rfl) ?_
    refine ev_neg (by simp) ?_
    by_cases hf : foundAt a l = true
    · have hc : cutAt a l < l.length := by simp [foundAt] at hf; omega
      refine ev_pos hf ?_
      rw [if_pos hf]
      refine ev_pos (by omega) ?_
      refine ev_pos (by omega) ?_
      exact ev_eq (ev_some _) (by rw [hset])
    · refine ev_neg hf ?_
      rw [if_neg hf]
      exact ev_bind (ev_all (fun k => impl_ins l (cutAt a l) ⟨a, v⟩ hle hl)) (ev_some _)

theorem without_le (a : Int) (l : List S147) : ∀ q ∈ without a l, q ∈ l := by
  induction l with
  | nil => intro q hq; simp [without] at hq
  | cons p r ih =>
    intro q hq
    simp only [without] at hq
    split at hq
    · exact List.mem_cons_of_mem _ (ih q hq)
    · rcases List.mem_cons.1 hq with rfl | hq
      · simp
      · exact List.mem_cons_of_mem _ (ih q hq)
theorem okFrom_without {prev : Int} (a : Int) (l : List S147) (hl : okFrom prev l = true) : okFrom prev (without a l) = true := by
  induction l generalizing prev with
  | nil => rfl
  | cons p r ih =>
    simp only [okFrom, Bool.and_eq_true, decide_eq_true_eq] at hl
    simp only [without]
    split
    · exact okFrom_up (by omega) _ (ih hl.2)
    · simp only [okFrom, Bool.and_eq_true, decide_eq_true_eq]
      exact ⟨hl.1, ih hl.2⟩
theorem okFrom_put {prev : Int} (a v : Int) (ha : 0 ≤ a ∧ a ≤ 999) (hv : -1000000000 ≤ v ∧ v ≤ 1000000000) (hp : prev < a) (l : List S147) (hl : okFrom prev l = true) : okFrom prev (putFrom a v false l) = true := by
  induction l generalizing prev with
  | nil => simp [putFrom, okFrom, inR]; omega
  | cons p r ih =>
    have hg := okFrom_gt r (prev := p.f0) (by simp only [okFrom, Bool.and_eq_true] at hl; exact hl.2)
    simp only [okFrom, Bool.and_eq_true, decide_eq_true_eq] at hl
    simp only [putFrom, Bool.false_or, Bool.false_eq_true, if_false]
    by_cases h : p.f0 < a
    · rw [if_neg (show ¬ p.f0 ≥ a by omega), if_neg (show ¬ p.f0 = a by omega), show decide (p.f0 ≥ a) = false by simp; omega]
      simp only [List.nil_append, List.singleton_append, okFrom, Bool.and_eq_true, decide_eq_true_eq]
      exact ⟨hl.1, ih h hl.2⟩
    · rw [if_pos (show p.f0 ≥ a by omega), show decide (p.f0 ≥ a) = true by simp; omega, putFrom_done a v r (fun q hq => by have := hg q hq; omega)]
      have hav : inR a 0 999 = true ∧ inR v (-1000000000) 1000000000 = true := by simp [inR]; omega
      by_cases he : p.f0 = a
      · rw [if_pos he]
        simp only [List.append_nil, List.singleton_append, okFrom, Bool.and_eq_true, decide_eq_true_eq]
        exact ⟨⟨hav, hp⟩, he ▸ hl.2⟩
      · rw [if_neg he]
        simp only [List.cons_append, List.nil_append, okFrom, Bool.and_eq_true, decide_eq_true_eq]
        exact ⟨⟨hav, hp⟩, ⟨⟨hl.1.1, by omega⟩, hl.2⟩⟩
theorem clampN_in (x : Int) : -1000000000 ≤ clampN x ∧ clampN x ≤ 1000000000 := by
  unfold clampN
  split <;> split <;> omega
theorem ok_changed (l : List S147) (op a v : Int) (ho : mapOk l = true) (hm : msgOk op a v = true) : mapOk (changedBy op a v l) = true := by
  have hmm : (0 ≤ a ∧ a ≤ 999) ∧ (-1000000000 ≤ v ∧ v ≤ 1000000000) := by simp [msgOk, inR] at hm; omega
  unfold changedBy
  split
  · exact okFrom_put a v hmm.1 hmm.2 (by omega) l ho
  · split
    · exact okFrom_without a l ho
    · split
      · exact okFrom_put a _ hmm.1 (clampN_in _) (by omega) l ho
      · exact ho
theorem mapDo_ok (l : List S147) (op a v : Int) (ho : mapOk l = true) : mapOk (mapDo l op a v) = true := by
  unfold mapDo
  split
  · rename_i h; exact ok_changed l op a v ho h.2
  · exact ho
theorem mapDo_bad (l : List S147) (op a v : Int) (ho : ¬ mapOk l = true) : mapDo l op a v = l := by
  unfold mapDo
  rw [if_neg (fun h => ho h.1)]

/-- A row of pairs behind messages. -/
def mapAllOf (l : List S147) (ms : List S67) : List S147 := ms.foldl (fun l m => mapDo l m.f0 m.f1 m.f2) l
theorem mapAll_len (ms : List S67) : ∀ l, (mapAllOf l ms).length ≤ l.length + ms.length := by
  induction ms with
  | nil => intro l; simp [mapAllOf]
  | cons m r ih =>
    intro l
    have h1 := ih (mapDo l m.f0 m.f1 m.f2)
    have h2 := mapDo_len l m.f0 m.f1 m.f2
    simp only [mapAllOf, List.foldl_cons, List.length_cons] at h1 ⊢
    omega
theorem mapAll_bad (ms : List S67) (l : List S147) (ho : ¬ mapOk l = true) : mapAllOf l ms = l := by
  induction ms with
  | nil => rfl
  | cons m r ih =>
    unfold mapAllOf at ih ⊢
    rw [List.foldl_cons, mapDo_bad l _ _ _ ho, ih]
theorem mapAll_ok (ms : List S67) : ∀ (l : List S147), mapOk l = true → mapOk (mapAllOf l ms) = true := by
  induction ms with
  | nil => intro l h; exact h
  | cons m r ih => intro l h; exact ih _ (mapDo_ok l m.f0 m.f1 m.f2 h)

theorem impl_mapall_l0 (ms : List S67) (hms : ms.length ≤ 1048580) : ∀ (d : Nat) (l : List S147) (i : Int), mapOk l = true → 0 ≤ i → i ≤ ms.length → (ms.length : Int) - i = d → l.length + d ≤ 1048600 → Ev (fun k => impl_MapAll.l0 k l ms ms.length i) (mapAllOf l (ms.drop i.toNat)) := by
  intro d
  induction d with
  | zero =>
    intro l i ho h0 h1 hd hl
    rw [List.drop_of_length_le (by omega)]
    refine ev_step (fun k => by simp only [impl_MapAll.l0]; exact rfl) ?_
    exact ev_neg (by omega) (ev_some _)
  | succ d ih =>
    intro l i ho h0 h1 hd hl
    have wi : wrap64 (i + 1) = i + 1 := w64 (by omega) (by omega)
    have hlen := mapDo_len l (rd_T67 ms i).f0 (rd_T67 ms i).f1 (rd_T67 ms i).f2
    have hok := mapDo_ok l (rd_T67 ms i).f0 (rd_T67 ms i).f1 (rd_T67 ms i).f2 ho
    rw [drop_Msg ms i h0 (by omega)]
    refine ev_step (fun k => by simp only [impl_MapAll.l0, wi]; exact rfl) ?_
    refine ev_pos (by omega) ?_
    refine ev_pos h0 ?_
    refine ev_pos (by omega) ?_
    refine ev_bind (ev_of 1 (fun k hk => impl_msgok _ _ _ k hk)) ?_
    have go := ih (mapDo l (rd_T67 ms i).f0 (rd_T67 ms i).f1 (rd_T67 ms i).f2) (i + 1) hok (by omega) (by omega) (by omega) (by omega)
    by_cases hm : msgOk (rd_T67 ms i).f0 (rd_T67 ms i).f1 (rd_T67 ms i).f2 = true
    · refine ev_pos hm ?_
      have he : mapDo l (rd_T67 ms i).f0 (rd_T67 ms i).f1 (rd_T67 ms i).f2 = changedBy (rd_T67 ms i).f0 (rd_T67 ms i).f1 (rd_T67 ms i).f2 l := by unfold mapDo; rw [if_pos ⟨ho, hm⟩]
      refine ev_bind (impl_changed_ev l _ _ _ ho hm (by omega)) ?_
      rw [← he]
      exact go
    · refine ev_neg hm ?_
      have he : mapDo l (rd_T67 ms i).f0 (rd_T67 ms i).f1 (rd_T67 ms i).f2 = l := by unfold mapDo; rw [if_neg (fun h => hm h.2)]
      rw [he] at go
      simp only [mapAllOf, List.foldl_cons, he]
      exact go
theorem impl_mapall (l : List S147) (ms : List S67) (hms : ms.length ≤ 1048580) (hl : l.length + ms.length ≤ 1048600) : Ev (fun k => impl_MapAll.f k l ms) (mapAllOf l ms) := by
  unfold impl_MapAll.f slices_Clone_Pair.f
  rw [if_pos (show l.length < 8796093022208 by omega)]
  refine ev_bind (f := fun _ => some l) (ev_some l) ?_
  refine ev_bind (ev_of l.length (fun k hk => impl_mapok l (by omega) k hk)) ?_
  by_cases ho : mapOk l = true
  · refine ev_pos ho ?_
    exact impl_mapall_l0 ms hms ms.length l 0 ho (by omega) (by omega) (by omega) (by omega)
  · refine ev_neg ho ?_
    rw [mapAll_bad ms l ho]
    exact ev_some _

/-- What a map tells of a key, place by place. -/
def look (k : Int) : List S147 → Option Int
  | [] => none
  | p :: r => if p.f0 = k then some p.f1 else look k r
def told : Option Int → Int × Bool
  | none => (0, false)
  | some v => (v, true)
theorem idx_look (k : Int) (l : List S147) : ∀ i : Int, (look k l = none ∧ idxFrom k l i = -1) ∨ (∃ j : Nat, idxFrom k l i = i + j ∧ look k l = some (rd_T147 l j).f1) := by
  induction l with
  | nil => intro i; exact .inl ⟨rfl, rfl⟩
  | cons p r ih =>
    intro i
    simp only [look, idxFrom]
    by_cases h : p.f0 = k
    · rw [if_pos h, if_pos h]
      exact .inr ⟨0, by omega, rfl⟩
    · rw [if_neg h, if_neg h]
      rcases ih (i + 1) with h1 | ⟨j, h1, h2⟩
      · exact .inl h1
      · exact .inr ⟨j + 1, by omega, h2⟩
theorem mapGet_look (k : Int) (l : List S147) : mapGet l k = told (look k l) := by
  unfold mapGet pairAt
  rcases idx_look k l 0 with ⟨h1, h2⟩ | ⟨j, h1, h2⟩
  · rw [h1, h2]; rfl
  · rw [h1, h2, if_neg (by omega), show (0 : Int) + (j : Int) = (j : Int) by omega]; rfl
theorem look_put {prev : Int} (k a v : Int) (l : List S147) (hl : okFrom prev l = true) : look k (putFrom a v false l) = if k = a then some v else look k l := by
  induction l generalizing prev with
  | nil =>
    show look k [⟨a, v⟩] = _
    simp only [look]
    by_cases h : a = k
    · rw [if_pos h, if_pos h.symm]
    · rw [if_neg h, if_neg (fun e => h e.symm)]
  | cons p r ih =>
    have hl2 : okFrom p.f0 r = true := by simp only [okFrom, Bool.and_eq_true] at hl; exact hl.2
    have hg := okFrom_gt r hl2
    simp only [putFrom, Bool.false_or, Bool.false_eq_true, if_false]
    by_cases h : p.f0 < a
    · rw [if_neg (show ¬ p.f0 ≥ a by omega), if_neg (show ¬ p.f0 = a by omega), show decide (p.f0 ≥ a) = false by simp; omega]
      simp only [List.nil_append, List.singleton_append, look]
      rw [ih hl2]
      by_cases hk : p.f0 = k
      · rw [if_pos hk, if_pos hk, if_neg (by omega)]
      · rw [if_neg hk, if_neg hk]
    · rw [if_pos (show p.f0 ≥ a by omega), show decide (p.f0 ≥ a) = true by simp; omega, putFrom_done a v r (fun q hq => by have := hg q hq; omega)]
      by_cases hk : k = a
      · rw [if_pos hk]
        simp only [List.cons_append, List.nil_append, look]
        rw [if_pos hk.symm]
      · rw [if_neg hk]
        by_cases he : p.f0 = a
        · rw [if_pos he]
          simp only [List.append_nil, List.singleton_append, look]
          rw [if_neg (fun e => hk e.symm), if_neg (fun e => hk (by omega))]
        · rw [if_neg he]
          simp only [List.cons_append, List.nil_append, look]
          rw [if_neg (fun e => hk e.symm)]
theorem look_without (k a : Int) (l : List S147) : look k (without a l) = if k = a then none else look k l := by
  induction l with
  | nil => simp [without, look]
  | cons p r ih =>
    simp only [without]
    by_cases h : p.f0 = a
    · rw [if_pos h, ih]
      by_cases hk : k = a
      · rw [if_pos hk, if_pos hk]
      · rw [if_neg hk, if_neg hk]
        simp only [look]
        rw [if_neg (fun e => hk (by omega))]
    · rw [if_neg h]
      simp only [look]
      rw [ih]
      by_cases hp : p.f0 = k
      · rw [if_pos hp, if_pos hp, if_neg (by omega)]
      · rw [if_neg hp, if_neg hp]

/-- The place of the first element that is such; -1 without one. -/
def idxBy (p : S67 → Bool) : List S67 → Int → Int
  | [], _ => -1
  | x :: r, i => if p x = true then i else idxBy p r (i + 1)
theorem idxBy_cases (p : S67 → Bool) (l : List S67) : ∀ i : Int, (idxBy p l i = -1 ∧ ∀ x ∈ l, p x = false) ∨ (∃ j : Nat, idxBy p l i = i + j ∧ j < l.length ∧ (∀ x ∈ l.take j, p x = false) ∧ p (rd_T67 l j) = true) := by
  induction l with
  | nil => intro i; exact .inl ⟨rfl, by simp⟩
  | cons x r ih =>
    intro i
    simp only [idxBy]
    by_cases h : p x = true
    · rw [if_pos h]
      exact .inr ⟨0, by omega, by simp, by simp, h⟩
    · rw [if_neg h]
      have hf : p x = false := by simpa using h
      rcases ih (i + 1) with ⟨h1, h2⟩ | ⟨j, h1, h2, h3, h4⟩
      · refine .inl ⟨h1, fun y hy => ?_⟩
        rcases List.mem_cons.1 hy with rfl | hy
        · exact hf
        · exact h2 y hy
      · refine .inr ⟨j + 1, by omega, by simp; omega, fun y hy => ?_, h4⟩
        rw [List.take_succ_cons] at hy
        rcases List.mem_cons.1 hy with rfl | hy
        · exact hf
        · exact h3 y hy
/-- A message that stays where messages are shrunk. -/
def stays (m : S67) : Bool := msgOk m.f0 m.f1 m.f2 && !(m.f0 == 4)
def setsKey (k : Int) (x : S67) : Bool := decide (x.f1 = k) && (decide (x.f0 = 1) || decide (x.f0 = 2))
def overBy (k : Int) (r : List S67) : Bool := r.any (fun x => msgOk x.f0 x.f1 x.f2 && setsKey k x)
/-- A message added to those that stay. -/
def addTo (out : List S67) (m : S67) : List S67 :=
  let at_ := idxBy (fun x => decide (x.f1 = m.f1)) out 0
  if at_ ≥ 0 ∧ (rd_T67 out at_).f0 = 1 ∧ m.f0 = 3 then out.set at_.toNat ⟨(rd_T67 out at_).f0, (rd_T67 out at_).f1, clampN (wrap64 ((rd_T67 out at_).f2 + m.f2))⟩ else out ++ [m]
def shrinkFrom : List S67 → List S67 → List S67
  | out, [] => out
  | out, m :: r => if stays m = true ∧ overBy m.f1 r = false then shrinkFrom (addTo out m) r else shrinkFrom out r
def shrinkOf (l : List S67) : List S67 := shrinkFrom [] l
theorem addTo_len (out : List S67) (m : S67) : (addTo out m).length ≤ out.length + 1 := by
  unfold addTo
  simp only
  split <;> simp
theorem shrinkFrom_len (l : List S67) : ∀ out, (shrinkFrom out l).length ≤ out.length + l.length := by
  induction l with
  | nil => intro out; simp [shrinkFrom]
  | cons m r ih =>
    intro out
    simp only [shrinkFrom, List.length_cons]
    split
    · have := ih (addTo out m)
      have := addTo_len out m
      omega
    · have := ih out
      omega
/-- The same over those that stay alone. -/
def shrinkStay : List S67 → List S67 → List S67
  | out, [] => out
  | out, m :: r => if r.any (setsKey m.f1) = true then shrinkStay out r else shrinkStay (addTo out m) r
theorem over_filter (k : Int) (r : List S67) : (r.filter stays).any (setsKey k) = overBy k r := by
  unfold overBy
  induction r with
  | nil => rfl
  | cons x r ih =>
    rw [List.any_cons, List.filter_cons]
    by_cases h : stays x = true
    · rw [if_pos h, List.any_cons, ih]
      have : msgOk x.f0 x.f1 x.f2 = true := by simp [stays] at h; exact h.1
      rw [this]; simp
    · rw [if_neg h, ih]
      have : (msgOk x.f0 x.f1 x.f2 && setsKey k x) = false := by
        by_cases ho : msgOk x.f0 x.f1 x.f2 = true
        · have h4 : x.f0 = 4 := by simp [stays, ho] at h; exact h
          simp [setsKey, h4]
        · simp [ho]
      rw [this]; simp
theorem shrink_stay (l : List S67) : ∀ out, shrinkStay out (l.filter stays) = shrinkFrom out l := by
  induction l with
  | nil => intro out; rfl
  | cons m r ih =>
    intro out
    rw [List.filter_cons]
    simp only [shrinkFrom]
    by_cases h : stays m = true
    · rw [if_pos h]
      simp only [shrinkStay]
      rw [over_filter, ih, ih]
      by_cases ho : overBy m.f1 r = true
      · rw [if_pos ho, if_neg (fun e => by rw [ho] at e; cases e.2)]
      · rw [if_neg ho, if_pos ⟨h, by simpa using ho⟩]
    · rw [if_neg h, if_neg (fun e => h e.1), ih]

theorem spec_over_l0 (l : List S67) (j : Int) (hj0 : 0 ≤ j) (hj : j < l.length) (hl : l.length ≤ 140737488355328) : ∀ (d : Nat) (i : Int), 0 ≤ i → i ≤ l.length → (l.length : Int) - i = d → Ev (fun k => spec_l1Over.l0 k l j i) (overBy (rd_T67 l j).f1 (l.drop i.toNat)) := by
  intro d
  induction d with
  | zero =>
    intro i h0 h1 hd
    rw [List.drop_of_length_le (by omega)]
    exact ev_step (fun k => by simp only [spec_l1Over.l0]; exact rfl) (ev_neg (by omega) (ev_some _))
  | succ d ih =>
    intro i h0 h1 hd
    have wi : wrap64 (i + 1) = i + 1 := w64 (by omega) (by omega)
    have go := ih (i + 1) (by omega) (by omega) (by omega)
    rw [drop_Msg l i h0 (by omega)]
    have hcons : overBy (rd_T67 l j).f1 (rd_T67 l i :: l.drop (i + 1).toNat) = ((msgOk (rd_T67 l i).f0 (rd_T67 l i).f1 (rd_T67 l i).f2 && setsKey (rd_T67 l j).f1 (rd_T67 l i)) || overBy (rd_T67 l j).f1 (l.drop (i + 1).toNat)) := by
      unfold overBy
      rw [List.any_cons]
    rw [hcons]
    refine ev_step (fun k => by simp only [spec_l1Over.l0, wi]; exact rfl) ?_
    refine ev_pos (by omega) ?_
    refine ev_pos h0 ?_
    refine ev_bind (ev_all (fun k => spec_msgok _ _ _)) ?_
    by_cases ho : msgOk (rd_T67 l i).f0 (rd_T67 l i).f1 (rd_T67 l i).f2 = true
    · refine ev_pos ho ?_
      refine ev_pos hj0 ?_
      refine ev_pos hj ?_
      rw [ho]
      by_cases hk : (rd_T67 l i).f1 = (rd_T67 l j).f1
      · refine ev_pos hk ?_
        by_cases h1' : (rd_T67 l i).f0 = 1
        · exact ev_pos h1' (ev_eq (ev_some _) (by simp [setsKey, hk, h1']))
        · refine ev_neg h1' ?_
          by_cases h2' : (rd_T67 l i).f0 = 2
          · exact ev_pos h2' (ev_eq (ev_some _) (by simp [setsKey, hk, h2']))
          · refine ev_neg h2' (ev_eq go ?_)
            simp [setsKey, h1', h2']
      · refine ev_neg hk (ev_eq go ?_)
        simp [setsKey, hk]
    · refine ev_neg ho (ev_eq go ?_)
      simp [ho]
theorem spec_over (l : List S67) (j : Int) (hj0 : 0 ≤ j) (hj : j < l.length) (hl : l.length ≤ 140737488355328) : Ev (fun k => spec_l1Over.f k l j) (overBy (rd_T67 l j).f1 (l.drop (j + 1).toNat)) := by
  unfold spec_l1Over.f
  rw [w64 (by omega) (by omega)]
  exact spec_over_l0 l j hj0 hj hl ((l.length : Int) - (j + 1)).toNat (j + 1) (by omega) (by omega) (by omega)
theorem spec_first_l0 (l : List S67) (a : Int) (hl : l.length ≤ 140737488355328) : ∀ (d : Nat) (i : Int), 0 ≤ i → i ≤ l.length → (l.length : Int) - i = d → Ev (fun k => spec_l1First.l0 k l a i) (idxBy (fun x => decide (x.f1 = a)) (l.drop i.toNat) i) := by
  intro d
  induction d with
  | zero =>
    intro i h0 h1 hd
    rw [List.drop_of_length_le (by omega)]
    exact ev_step (fun k => by simp only [spec_l1First.l0]; exact rfl) (ev_neg (by omega) (ev_some _))
  | succ d ih =>
    intro i h0 h1 hd
    have wi : wrap64 (i + 1) = i + 1 := w64 (by omega) (by omega)
    rw [drop_Msg l i h0 (by omega)]
    simp only [idxBy]
    refine ev_step (fun k => by simp only [spec_l1First.l0, wi]; exact rfl) ?_
    refine ev_pos (by omega) ?_
    refine ev_pos h0 ?_
    by_cases hk : (rd_T67 l i).f1 = a
    · rw [if_pos (by simpa using hk)]
      exact ev_pos hk (ev_some _)
    · rw [if_neg (by simpa using hk)]
      exact ev_neg hk (ih (i + 1) (by omega) (by omega) (by omega))
theorem spec_first (l : List S67) (a : Int) (hl : l.length ≤ 140737488355328) : Ev (fun k => spec_l1First.f k l a) (idxBy (fun x => decide (x.f1 = a)) l 0) := by
  unfold spec_l1First.f
  exact spec_first_l0 l a hl l.length 0 (by omega) (by omega) (by omega)
theorem spec_shrink_l0 (l : List S67) (hl : l.length ≤ 1048600) : ∀ (d : Nat) (out : List S67) (i : Int), 0 ≤ i → i ≤ l.length → (l.length : Int) - i = d → out.length + d ≤ 1048600 → Ev (fun k => spec_Shrink.l0 k l out i) (shrinkFrom out (l.drop i.toNat)) := by
  intro d
  induction d with
  | zero =>
    intro out i h0 h1 hd ho
    rw [List.drop_of_length_le (by omega)]
    exact ev_step (fun k => by simp only [spec_Shrink.l0]; exact rfl) (ev_neg (by omega) (ev_some _))
  | succ d ih =>
    intro out i h0 h1 hd ho
    have wi : wrap64 (i + 1) = i + 1 := w64 (by omega) (by omega)
    rw [drop_Msg l i h0 (by omega)]
    have eta : (⟨(rd_T67 l i).f0, (rd_T67 l i).f1, (rd_T67 l i).f2⟩ : S67) = rd_T67 l i := rfl
    have skip : ∀ a b c : Int, stays (rd_T67 l i) = false ∨ overBy (rd_T67 l i).f1 (l.drop (i + 1).toNat) = true → Ev (fun k => spec_Shrink.j1 k l out i true a b c) (shrinkFrom out (rd_T67 l i :: l.drop (i + 1).toNat)) := by
      intro a b c h
      simp only [shrinkFrom]
      rw [if_neg (fun e => by rcases h with h | h <;> simp [h] at e)]
      refine ev_step (fun k => by simp only [spec_Shrink.j1, wi]; exact rfl) ?_
      exact ev_pos trivial (ih out (i + 1) (by omega) (by omega) (by omega) (by omega))
    refine ev_step (fun k => by simp only [spec_Shrink.l0]; exact rfl) ?_
    refine ev_pos (by omega) ?_
    refine ev_pos h0 ?_
    refine ev_bind (ev_all (fun k => spec_msgok _ _ _)) ?_
    by_cases hm : msgOk (rd_T67 l i).f0 (rd_T67 l i).f1 (rd_T67 l i).f2 = true
    case neg => exact ev_neg hm (skip _ _ _ (.inl (by simp [stays, hm])))
    refine ev_pos hm ?_
    by_cases h4 : (rd_T67 l i).f0 = 4
    case pos => exact ev_pos h4 (skip _ _ _ (.inl (by simp [stays, h4])))
    refine ev_neg h4 ?_
    have hst : stays (rd_T67 l i) = true := by simp [stays, hm, h4]
    refine ev_bind (spec_over l i h0 (by omega) (by omega)) ?_
    by_cases hov : overBy (rd_T67 l i).f1 (l.drop (i + 1).toNat) = true
    case pos =>
      have h := skip (rd_T67 l i).f0 (rd_T67 l i).f1 (rd_T67 l i).f2 (.inr hov)
      rw [hov]
      exact h
    have hof : overBy (rd_T67 l i).f1 (l.drop (i + 1).toNat) = false := by simpa using hov
    rw [hof]
    simp only [shrinkFrom]
    rw [if_pos ⟨hst, hof⟩]
    refine ev_step (fun k => by simp only [spec_Shrink.j1, wi, eta]; exact rfl) ?_
    refine ev_neg (by simp) ?_
    refine ev_bind (spec_first out _ (by omega)) ?_
    have go : ∀ out' : List S67, out'.length + d ≤ 1048600 → Ev (fun k => spec_Shrink.l0 k l out' (i + 1)) (shrinkFrom out' (l.drop (i + 1).toNat)) := fun out' h => ih out' (i + 1) (by omega) (by omega) (by omega) h
    have app : addTo out (rd_T67 l i) = out ++ [rd_T67 l i] → Ev (fun k => if out.length < 5864062014805 then spec_Shrink.l0 k l (out ++ [rd_T67 l i]) (i + 1) else none) (shrinkFrom (addTo out (rd_T67 l i)) (l.drop (i + 1).toNat)) := by
      intro e
      rw [e]
      exact ev_pos (by omega) (go _ (by simp; omega))
    have hx := idxBy_cases (fun x => decide (x.f1 = (rd_T67 l i).f1)) out 0
    have hadd : addTo out (rd_T67 l i) = if idxBy (fun x => decide (x.f1 = (rd_T67 l i).f1)) out 0 ≥ 0 ∧ (rd_T67 out (idxBy (fun x => decide (x.f1 = (rd_T67 l i).f1)) out 0)).f0 = 1 ∧ (rd_T67 l i).f0 = 3 then out.set (idxBy (fun x => decide (x.f1 = (rd_T67 l i).f1)) out 0).toNat ⟨(rd_T67 out (idxBy (fun x => decide (x.f1 = (rd_T67 l i).f1)) out 0)).f0, (rd_T67 out (idxBy (fun x => decide (x.f1 = (rd_T67 l i).f1)) out 0)).f1, clampN (wrap64 ((rd_T67 out (idxBy (fun x => decide (x.f1 = (rd_T67 l i).f1)) out 0)).f2 + (rd_T67 l i).f2))⟩ else out ++ [rd_T67 l i] := rfl
    generalize idxBy (fun x => decide (x.f1 = (rd_T67 l i).f1)) out 0 = t at *
    have ht : t = -1 ∨ (0 ≤ t ∧ t < out.length) := by
      rcases hx with ⟨h, _⟩ | ⟨j, h, h2, _⟩
      · exact .inl h
      · exact .inr ⟨by omega, by omega⟩
    by_cases h5 : t ≥ 0
    case neg => exact ev_neg h5 (app (by rw [hadd, if_neg (fun e => h5 e.1)]))
    refine ev_pos h5 ?_
    refine ev_pos h5 ?_
    refine ev_pos (by omega) ?_
    by_cases h6 : (rd_T67 out t).f0 = 1
    case neg => exact ev_neg h6 (app (by rw [hadd, if_neg (fun e => h6 e.2.1)]))
    refine ev_pos h6 ?_
    by_cases h7 : (rd_T67 l i).f0 = 3
    case neg => exact ev_neg h7 (app (by rw [hadd, if_neg (fun e => h7 e.2.2)]))
    refine ev_pos h7 ?_
    refine ev_bind (ev_all (fun k => spec_clamp _)) ?_
    rw [hadd, if_pos ⟨h5, h6, h7⟩]
    exact go _ (by simp; omega)
theorem spec_shrink (l : List S67) (hl : l.length ≤ 1048600) : Ev (fun k => spec_Shrink.f k l) (shrinkOf l) := by
  unfold spec_Shrink.f
  exact spec_shrink_l0 l hl l.length [] 0 (by omega) (by omega) (by omega) (by simp; omega)

theorem impl_bad (k : Nat) (hk : 1 < k) (m : S67) : impl_Shrink_f1.f k m.f0 m.f1 m.f2 = some (!stays m) := by
  unfold impl_Shrink_f1.f stays
  rw [impl_msgok _ _ _ k hk]
  simp only [Option.bind_some]
  by_cases h : msgOk m.f0 m.f1 m.f2 = true
  · rw [if_pos h, h]; simp
  · rw [if_neg h]; simp [h]
theorem impl_bad_ev (m : S67) : Ev (fun k => impl_Shrink_f1.f k m.f0 m.f1 m.f2) (!stays m) := ev_of 1 (fun k hk => impl_bad k hk m)
theorem impl_idel_l0 (l : List S67) (hl : l.length ≤ 140737488355328) : ∀ (d : Nat) (i : Int), 0 ≤ i → i ≤ l.length → (l.length : Int) - i = d → Ev (fun k => slices_IndexFunc_Msg_96.l0 k l l.length i) (idxBy (fun x => !stays x) (l.drop i.toNat) i) := by
  intro d
  induction d with
  | zero =>
    intro i h0 h1 hd
    rw [List.drop_of_length_le (by omega)]
    exact ev_step (fun k => by simp only [slices_IndexFunc_Msg_96.l0]; exact rfl) (ev_neg (by omega) (ev_some _))
  | succ d ih =>
    intro i h0 h1 hd
    have wi : wrap64 (i + 1) = i + 1 := w64 (by omega) (by omega)
    rw [drop_Msg l i h0 (by omega)]
    simp only [idxBy]
    refine ev_step (fun k => by simp only [slices_IndexFunc_Msg_96.l0, wi]; exact rfl) ?_
    refine ev_pos (by omega) ?_
    refine ev_pos h0 ?_
    refine ev_pos (by omega) ?_
    refine ev_bind (impl_bad_ev _) ?_
    by_cases hk : (!stays (rd_T67 l i)) = true
    · rw [if_pos hk]
      exact ev_pos hk (ev_some _)
    · rw [if_neg hk]
      exact ev_neg hk (ih (i + 1) (by omega) (by omega) (by omega))
theorem filter_none (p : S67 → Bool) (l : List S67) (h : ∀ x ∈ l, p x = true) : l.filter p = l := List.filter_eq_self.2 h
theorem impl_delf_l0 : ∀ (d : Nat) (l : List S67) (i j : Int), l.length ≤ 140737488355328 → 0 ≤ i → i < j → j ≤ l.length → (l.length : Int) - j = d → Ev (fun k => slices_DeleteFunc_Msg_96.l0 k l i j) (l.take i.toNat ++ (l.drop j.toNat).filter stays) := by
  intro d
  induction d with
  | zero =>
    intro l i j hl h0 h1 h2 hd
    rw [List.drop_of_length_le (by omega)]
    refine ev_step (fun k => by simp only [slices_DeleteFunc_Msg_96.l0]; exact rfl) ?_
    refine ev_neg (by omega) ?_
    refine ev_pos h0 ?_
    exact ev_pos (by omega) (ev_eq (ev_some _) (by simp))
  | succ d ih =>
    intro l i j hl h0 h1 h2 hd
    have wi : wrap64 (i + 1) = i + 1 := w64 (by omega) (by omega)
    have wj : wrap64 (j + 1) = j + 1 := w64 (by omega) (by omega)
    have eta : (⟨(rd_T67 l j).f0, (rd_T67 l j).f1, (rd_T67 l j).f2⟩ : S67) = rd_T67 l j := rfl
    rw [drop_Msg l j (by omega) (by omega), List.filter_cons]
    refine ev_step (fun k => by simp only [slices_DeleteFunc_Msg_96.l0, wi, wj, eta]; exact rfl) ?_
    refine ev_pos (by omega) ?_
    refine ev_pos (by omega) ?_
    refine ev_bind (impl_bad_ev _) ?_
    by_cases hs : stays (rd_T67 l j) = true
    · rw [if_pos hs]
      refine ev_neg (by simp [hs]) ?_
      refine ev_pos h0 ?_
      refine ev_pos (by omega) ?_
      have h := ih (l.set i.toNat (rd_T67 l j)) (i + 1) (j + 1) (by simpa using hl) (by omega) (by omega) (by simp; omega) (by simp; omega)
      refine ev_eq h ?_
      rw [List.drop_set_of_lt (by omega), show (i + 1).toNat = i.toNat + 1 by omega, List.take_set, List.take_succ_eq_append_getElem (by omega), List.set_append_right _ _ (by rw [List.length_take]; omega)]
      have hi : i.toNat - (l.take i.toNat).length = 0 := by rw [List.length_take]; omega
      rw [hi]
      simp
    · rw [if_neg hs]
      refine ev_pos (by simp [hs]) ?_
      exact ih l i (j + 1) hl h0 (by omega) (by omega) (by omega)
theorem impl_delf (l : List S67) (hl : l.length ≤ 1048600) : Ev (fun k => slices_DeleteFunc_Msg_96.f k l) (l.filter stays) := by
  unfold slices_DeleteFunc_Msg_96.f slices_IndexFunc_Msg_96.f
  refine ev_bind (impl_idel_l0 l (by omega) l.length 0 (by omega) (by omega) (by omega)) ?_
  rw [show l.drop (0 : Int).toNat = l from rfl]
  rcases idxBy_cases (fun x => !stays x) l 0 with ⟨h1, h2⟩ | ⟨j, h1, h2, h3, h4⟩
  · rw [h1]
    refine ev_pos rfl (ev_eq (ev_some _) ?_)
    exact (filter_none stays l (fun x hx => by simpa using h2 x hx)).symm
  · rw [h1, show (0 : Int) + (j : Int) = (j : Int) by omega, w64 (by omega) (by omega)]
    refine ev_neg (by omega) ?_
    refine ev_eq (impl_delf_l0 ((l.length : Int) - ((j : Int) + 1)).toNat l j ((j : Int) + 1) (by omega) (by omega) (by omega) (by omega) (by omega)) ?_
    have hl1 : l = l.take j ++ (rd_T67 l (j : Nat) :: l.drop (j + 1)) := by
      have := drop_Msg l (j : Nat) (by omega) (by omega)
      simp only [Int.toNat_natCast] at this
      rw [show ((j : Int) + 1).toNat = j + 1 by omega] at this
      rw [← this, List.take_append_drop]
    have hst : stays (rd_T67 l (j : Nat)) = false := by simpa using h4
    conv => rhs; rw [hl1]
    rw [List.filter_append, List.filter_cons, hst, filter_none stays (l.take j) (fun x hx => by simpa using h3 x hx)]
    simp only [Bool.false_eq_true, if_false, Int.toNat_natCast]
    rw [show ((j : Int) + 1).toNat = j + 1 by omega]
theorem impl_any_l0 (l : List S67) (a b c : Int) (hl : l.length ≤ 140737488355328) : ∀ (d : Nat) (i : Int), 0 ≤ i → i ≤ l.length → (l.length : Int) - i = d → Ev (fun k => slices_IndexFunc_Msg_98.l0 k l l.length i a b c) (idxBy (setsKey b) (l.drop i.toNat) i) := by
  intro d
  induction d with
  | zero =>
    intro i h0 h1 hd
    rw [List.drop_of_length_le (by omega)]
    exact ev_step (fun k => by simp only [slices_IndexFunc_Msg_98.l0]; exact rfl) (ev_neg (by omega) (ev_some _))
  | succ d ih =>
    intro i h0 h1 hd
    have wi : wrap64 (i + 1) = i + 1 := w64 (by omega) (by omega)
    rw [drop_Msg l i h0 (by omega)]
    simp only [idxBy]
    have hf : impl_Shrink_f2.f (rd_T67 l i).f0 (rd_T67 l i).f1 (rd_T67 l i).f2 a b c = some (setsKey b (rd_T67 l i)) := by
      unfold impl_Shrink_f2.f impl_sets.f setsKey
      by_cases h : (rd_T67 l i).f1 = b
      · rw [if_pos h]
        by_cases h1 : (rd_T67 l i).f0 = 1
        · rw [if_pos h1]; simp [h, h1]
        · rw [if_neg h1]
          simp only [Option.bind_some, h, h1]
          by_cases h2 : (rd_T67 l i).f0 = 2 <;> simp [h2]
      · rw [if_neg h]; simp [h]
    refine ev_step (fun k => by simp only [slices_IndexFunc_Msg_98.l0, wi, hf]; exact rfl) ?_
    refine ev_pos (by omega) ?_
    refine ev_pos h0 ?_
    refine ev_pos (by omega) ?_
    refine ev_bind (f := fun _ => some (setsKey b (rd_T67 l i))) (ev_some _) ?_
    by_cases hk : setsKey b (rd_T67 l i) = true
    · rw [if_pos hk]
      exact ev_pos hk (ev_some _)
    · rw [if_neg hk]
      exact ev_neg hk (ih (i + 1) (by omega) (by omega) (by omega))
theorem impl_any (l : List S67) (a b c : Int) (hl : l.length ≤ 140737488355328) : Ev (fun k => slices_ContainsFunc_Msg_98.f k l a b c) (l.any (setsKey b)) := by
  unfold slices_ContainsFunc_Msg_98.f slices_IndexFunc_Msg_98.f
  refine ev_bind (impl_any_l0 l a b c hl l.length 0 (by omega) (by omega) (by omega)) (ev_eq (ev_some _) ?_)
  rw [show l.drop (0 : Int).toNat = l from rfl]
  rcases idxBy_cases (setsKey b) l 0 with ⟨h1, h2⟩ | ⟨j, h1, h2, _, h4⟩
  · rw [h1]
    have : l.any (setsKey b) = false := by
      rw [List.any_eq_false]
      intro x hx
      simp [h2 x hx]
    rw [this]; simp
  · rw [h1]
    have : l.any (setsKey b) = true := List.any_eq_true.2 ⟨_, by unfold rd_T67; rw [List.getD_eq_getElem?_getD, List.getElem?_eq_getElem (by omega)]; exact List.getElem_mem _, h4⟩
    rw [this]; simp
theorem impl_first_l0 (l : List S67) (a b c : Int) (hl : l.length ≤ 140737488355328) : ∀ (d : Nat) (i : Int), 0 ≤ i → i ≤ l.length → (l.length : Int) - i = d → Ev (fun k => slices_IndexFunc_Msg_101.l0 k l l.length i a b c) (idxBy (fun x => decide (x.f1 = b)) (l.drop i.toNat) i) := by
  intro d
  induction d with
  | zero =>
    intro i h0 h1 hd
    rw [List.drop_of_length_le (by omega)]
    exact ev_step (fun k => by simp only [slices_IndexFunc_Msg_101.l0]; exact rfl) (ev_neg (by omega) (ev_some _))
  | succ d ih =>
    intro i h0 h1 hd
    have wi : wrap64 (i + 1) = i + 1 := w64 (by omega) (by omega)
    rw [drop_Msg l i h0 (by omega)]
    simp only [idxBy]
    refine ev_step (fun k => by simp only [slices_IndexFunc_Msg_101.l0, wi, impl_Shrink_f3.f, Option.bind_some]; exact rfl) ?_
    refine ev_pos (by omega) ?_
    refine ev_pos h0 ?_
    refine ev_pos (by omega) ?_
    by_cases hk : (rd_T67 l i).f1 = b
    · rw [if_pos (by simpa using hk)]
      exact ev_pos (by simpa using hk) (ev_some _)
    · rw [if_neg (by simpa using hk)]
      exact ev_neg (by simpa using hk) (ih (i + 1) (by omega) (by omega) (by omega))
theorem impl_first (l : List S67) (a b c : Int) (hl : l.length ≤ 140737488355328) : Ev (fun k => slices_IndexFunc_Msg_101.f k l a b c) (idxBy (fun x => decide (x.f1 = b)) l 0) := by
  unfold slices_IndexFunc_Msg_101.f
  exact impl_first_l0 l a b c hl l.length 0 (by omega) (by omega) (by omega)
theorem impl_shrink_l0 (l : List S67) (hl : l.length ≤ 1048600) : ∀ (d : Nat) (out : List S67) (i : Int), 0 ≤ i → i ≤ l.length → (l.length : Int) - i = d → out.length + d ≤ 1048600 → Ev (fun k => impl_Shrink.l0 k l out l l.length i) (shrinkStay out (l.drop i.toNat)) := by
  intro d
  induction d with
  | zero =>
    intro out i h0 h1 hd ho
    rw [List.drop_of_length_le (by omega)]
    exact ev_step (fun k => by simp only [impl_Shrink.l0]; exact rfl) (ev_neg (by omega) (ev_some _))
  | succ d ih =>
    intro out i h0 h1 hd ho
    have wi : wrap64 (i + 1) = i + 1 := w64 (by omega) (by omega)
    rw [drop_Msg l i h0 (by omega)]
    have eta : (⟨(rd_T67 l i).f0, (rd_T67 l i).f1, (rd_T67 l i).f2⟩ : S67) = rd_T67 l i := rfl
    have go : ∀ out' : List S67, out'.length + d ≤ 1048600 → Ev (fun k => impl_Shrink.l0 k l out' l l.length (i + 1)) (shrinkStay out' (l.drop (i + 1).toNat)) := fun out' h => ih out' (i + 1) (by omega) (by omega) (by omega) h
    simp only [shrinkStay]
    refine ev_step (fun k => by simp only [impl_Shrink.l0, wi, eta]; exact rfl) ?_
    refine ev_pos (by omega) ?_
    refine ev_pos h0 ?_
    refine ev_pos (by omega) ?_
    refine ev_pos (by omega) ?_
    refine ev_pos (by omega) ?_
    refine ev_bind (impl_any (l.drop (i + 1).toNat) _ _ _ (by simp; omega)) ?_
    by_cases hany : (l.drop (i + 1).toNat).any (setsKey (rd_T67 l i).f1) = true
    · rw [if_pos hany]
      exact ev_pos hany (go out (by omega))
    rw [if_neg hany]
    refine ev_neg hany ?_
    refine ev_bind (impl_first out _ _ _ (by omega)) ?_
    have app : addTo out (rd_T67 l i) = out ++ [rd_T67 l i] → Ev (fun k => if out.length < 5864062014805 then impl_Shrink.l0 k l (out ++ [rd_T67 l i]) l l.length (i + 1) else none) (shrinkStay (addTo out (rd_T67 l i)) (l.drop (i + 1).toNat)) := by
      intro e
      rw [e]
      exact ev_pos (by omega) (go _ (by simp; omega))
    have hx := idxBy_cases (fun x => decide (x.f1 = (rd_T67 l i).f1)) out 0
    have hadd : addTo out (rd_T67 l i) = if idxBy (fun x => decide (x.f1 = (rd_T67 l i).f1)) out 0 ≥ 0 ∧ (rd_T67 out (idxBy (fun x => decide (x.f1 = (rd_T67 l i).f1)) out 0)).f0 = 1 ∧ (rd_T67 l i).f0 = 3 then out.set (idxBy (fun x => decide (x.f1 = (rd_T67 l i).f1)) out 0).toNat ⟨(rd_T67 out (idxBy (fun x => decide (x.f1 = (rd_T67 l i).f1)) out 0)).f0, (rd_T67 out (idxBy (fun x => decide (x.f1 = (rd_T67 l i).f1)) out 0)).f1, clampN (wrap64 ((rd_T67 out (idxBy (fun x => decide (x.f1 = (rd_T67 l i).f1)) out 0)).f2 + (rd_T67 l i).f2))⟩ else out ++ [rd_T67 l i] := rfl
    generalize idxBy (fun x => decide (x.f1 = (rd_T67 l i).f1)) out 0 = t at *
    have ht : t = -1 ∨ (0 ≤ t ∧ t < out.length) := by
      rcases hx with ⟨h, _⟩ | ⟨j, h, h2, _⟩
      · exact .inl h
      · exact .inr ⟨by omega, by omega⟩
    by_cases h7 : (rd_T67 l i).f0 = 3
    case neg => exact ev_neg h7 (app (by rw [hadd, if_neg (fun e => h7 e.2.2)]))
    refine ev_pos h7 ?_
    by_cases h5 : t ≥ 0
    case neg => exact ev_neg h5 (app (by rw [hadd, if_neg (fun e => h5 e.1)]))
    refine ev_pos h5 ?_
    refine ev_pos h5 ?_
    refine ev_pos (by omega) ?_
    by_cases h6 : (rd_T67 out t).f0 = 1
    case neg => exact ev_neg h6 (app (by rw [hadd, if_neg (fun e => h6 e.2.1)]))
    refine ev_pos h6 ?_
    refine ev_bind (ev_all (fun k => impl_limit _)) ?_
    rw [hadd, if_pos ⟨h5, h6, h7⟩]
    exact go _ (by simp; omega)
theorem impl_shrink (l : List S67) (hl : l.length ≤ 1048600) : Ev (fun k => impl_Shrink.f k l) (shrinkOf l) := by
  unfold impl_Shrink.f slices_Clone_Msg.f shrinkOf
  rw [if_pos (by omega)]
  refine ev_bind (f := fun _ => some l) (ev_some l) ?_
  refine ev_bind (impl_delf l hl) ?_
  have hf : (l.filter stays).length ≤ l.length := List.length_filter_le _ _
  rw [← shrink_stay]
  exact impl_shrink_l0 (l.filter stays) (by omega) (l.filter stays).length [] 0 (by omega) (by omega) (by omega) (by simp; omega)

/-- What a message makes of what a key has. -/
def eff (m : S67) (x : Option Int) : Option Int := if m.f0 = 1 then some m.f2 else if m.f0 = 2 then none else if m.f0 = 3 then some (clampN ((told x).1 + m.f2)) else x
def stepK (k : Int) (m : S67) (x : Option Int) : Option Int := if stays m = true ∧ m.f1 = k then eff m x else x
def foldK (k : Int) : List S67 → Option Int → Option Int
  | [], x => x
  | m :: r, x => foldK k r (stepK k m x)
theorem foldK_append (k : Int) (a b : List S67) : ∀ x, foldK k (a ++ b) x = foldK k b (foldK k a x) := by
  induction a with
  | nil => intro x; rfl
  | cons m r ih => intro x; exact ih _
theorem stays_op {m : S67} (h : stays m = true) : msgOk m.f0 m.f1 m.f2 = true ∧ (m.f0 = 1 ∨ m.f0 = 2 ∨ m.f0 = 3) ∧ (-1000000000 ≤ m.f2 ∧ m.f2 ≤ 1000000000) := by
  simp only [stays, Bool.and_eq_true, Bool.not_eq_true', beq_eq_false_iff_ne, ne_eq] at h
  have hm := h.1
  simp [msgOk, inR] at hm
  exact ⟨h.1, by omega, by omega⟩
theorem look_do (l : List S147) (m : S67) (k : Int) (ho : mapOk l = true) : look k (mapDo l m.f0 m.f1 m.f2) = stepK k m (look k l) := by
  unfold stepK
  by_cases hs : stays m = true
  · obtain ⟨hm, hop, _⟩ := stays_op hs
    have hd : mapDo l m.f0 m.f1 m.f2 = changedBy m.f0 m.f1 m.f2 l := by unfold mapDo; rw [if_pos ⟨ho, hm⟩]
    rw [hd]
    unfold changedBy
    by_cases hk : m.f1 = k
    · have e : (if stays m = true ∧ m.f1 = k then eff m (look k l) else look k l) = eff m (look k l) := if_pos ⟨hs, hk⟩
      rw [e]
      unfold eff
      by_cases h1 : m.f0 = 1
      · rw [if_pos h1, if_pos h1, look_put k m.f1 m.f2 l ho, if_pos hk.symm]
      · rw [if_neg h1, if_neg h1]
        by_cases h2 : m.f0 = 2
        · rw [if_pos h2, if_pos h2, look_without, if_pos hk.symm]
        · rw [if_neg h2, if_neg h2, if_pos (show m.f0 = 3 by omega), if_pos (show m.f0 = 3 by omega), look_put k m.f1 _ l ho, if_pos hk.symm, mapGet_look, hk]
    · have e : (if stays m = true ∧ m.f1 = k then eff m (look k l) else look k l) = look k l := if_neg (fun h => hk h.2)
      rw [e]
      split
      · rw [look_put k m.f1 m.f2 l ho, if_neg (fun e => hk e.symm)]
      · split
        · rw [look_without, if_neg (fun e => hk e.symm)]
        · split
          · rw [look_put k m.f1 _ l ho, if_neg (fun e => hk e.symm)]
          · rfl
  · rw [if_neg (fun h => hs h.1)]
    unfold mapDo
    by_cases hm : mapOk l = true ∧ msgOk m.f0 m.f1 m.f2 = true
    · rw [if_pos hm]
      have h4 : m.f0 = 4 := by simp [stays, hm.2] at hs; exact hs
      unfold changedBy
      rw [if_neg (by omega), if_neg (by omega), if_neg (by omega)]
    · rw [if_neg hm]
theorem look_all (k : Int) (ms : List S67) : ∀ l, mapOk l = true → look k (mapAllOf l ms) = foldK k ms (look k l) := by
  induction ms with
  | nil => intro l _; rfl
  | cons m r ih =>
    intro l ho
    have h := ih (mapDo l m.f0 m.f1 m.f2) (mapDo_ok l m.f0 m.f1 m.f2 ho)
    rw [look_do l m k ho] at h
    exact h
theorem look_low {prev : Int} (k : Int) (l : List S147) (ho : okFrom prev l = true) (hk : k ≤ prev) : look k l = none := by
  induction l generalizing prev with
  | nil => rfl
  | cons p r ih =>
    simp only [okFrom, Bool.and_eq_true, decide_eq_true_eq] at ho
    simp only [look]
    rw [if_neg (by omega)]
    exact ih ho.2 (by omega)
theorem maps_ext (l : List S147) : ∀ (l' : List S147) (prev prev' : Int), okFrom prev l = true → okFrom prev' l' = true → (∀ k, look k l = look k l') → l = l' := by
  induction l with
  | nil =>
    intro l' prev prev' _ _ h
    cases l' with
    | nil => rfl
    | cons q r' =>
      have := h q.f0
      simp [look] at this
  | cons p r ih =>
    intro l' prev prev' h1 h2 h
    cases l' with
    | nil =>
      have := h p.f0
      simp [look] at this
    | cons q r' =>
      simp only [okFrom, Bool.and_eq_true, decide_eq_true_eq] at h1 h2
      have hpq : p.f0 = q.f0 := by
        rcases Int.lt_trichotomy p.f0 q.f0 with hlt | he | hgt
        · have := h p.f0
          simp only [look, if_true] at this
          rw [if_neg (by omega), look_low p.f0 r' h2.2 (by omega)] at this
          cases this
        · exact he
        · have := h q.f0
          simp only [look, if_true] at this
          rw [if_neg (by omega), look_low q.f0 r h1.2 (by omega)] at this
          cases this
      have hv : p.f1 = q.f1 := by
        have := h p.f0
        simp only [look, if_true] at this
        rw [if_pos hpq.symm] at this
        injection this
      have hp : p = q := by
        cases p; cases q
        simp only at hpq hv
        subst hpq hv
        rfl
      subst hp
      congr 1
      refine ih r' p.f0 p.f0 h1.2 h2.2 (fun k => ?_)
      by_cases hk : k ≤ p.f0
      · rw [look_low k r h1.2 hk, look_low k r' h2.2 hk]
      · have := h k
        simp only [look] at this
        rw [if_neg (by omega), if_neg (by omega)] at this
        exact this
theorem foldK_over (k : Int) (r : List S67) : overBy k r = true → ∀ x y, foldK k r x = foldK k r y := by
  induction r with
  | nil => intro h; simp [overBy] at h
  | cons m r ih =>
    intro h x y
    simp only [foldK]
    by_cases hr : overBy k r = true
    · exact ih hr _ _
    · have hm : msgOk m.f0 m.f1 m.f2 = true ∧ setsKey k m = true := by
        unfold overBy at h hr
        rw [List.any_cons, Bool.or_eq_true] at h
        rcases h with h | h
        · simpa using h
        · exact absurd h hr
      have hs : m.f1 = k ∧ (m.f0 = 1 ∨ m.f0 = 2) := by simpa [setsKey] using hm.2
      have hst : stays m = true := by
        simp only [stays, hm.1, Bool.true_and]
        rcases hs.2 with h | h <;> simp [h]
      have e : ∀ z, stepK k m z = if m.f0 = 1 then some m.f2 else none := by
        intro z
        unfold stepK eff
        rw [if_pos ⟨hst, hs.1⟩]
        rcases hs.2 with h1 | h2
        · rw [if_pos h1, if_pos h1]
        · rw [if_neg (by omega), if_pos h2, if_neg (by omega)]
      rw [e, e]
theorem foldK_far (k : Int) (r : List S67) (h : ∀ y ∈ r, y.f1 ≠ k) : ∀ x, foldK k r x = x := by
  induction r with
  | nil => intro x; rfl
  | cons m r ih =>
    intro x
    simp only [foldK, stepK]
    rw [if_neg (fun e => h m (by simp) e.2)]
    exact ih (fun y hy => h y (by simp [hy])) x
/-- Of two messages one behind the other neither is idle: the later one sets no key that the earlier one has; behind a put there is no other of its key. -/
def Sep (a b : Int × Int) : Prop := ¬ (b.2 = a.2 ∧ (b.1 = 1 ∨ b.1 = 2)) ∧ ¬ (a.1 = 1 ∧ b.2 = a.2)
def sig (x : S67) : Int × Int := (x.f0, x.f1)
structure Inv (out l : List S67) : Prop where
  stay : ∀ x ∈ out, stays x = true
  over : ∀ x ∈ out, overBy x.f1 l = false
  sep : (out.map sig).Pairwise Sep
theorem over_tail {k : Int} {m : S67} {r : List S67} (h : overBy k (m :: r) = false) : overBy k r = false ∧ (msgOk m.f0 m.f1 m.f2 = true → setsKey k m = false) := by
  unfold overBy at h ⊢
  rw [List.any_cons, Bool.or_eq_false_iff] at h
  refine ⟨h.2, fun hm => ?_⟩
  have := h.1
  rw [hm, Bool.true_and] at this
  exact this
theorem sep_put {out : List S67} (h : (out.map sig).Pairwise Sep) (j : Nat) (hj : j < out.length) (hp : (rd_T67 out j).f0 = 1) : (∀ y ∈ out.take j, y.f1 ≠ (rd_T67 out j).f1) ∧ (∀ y ∈ out.drop (j + 1), y.f1 ≠ (rd_T67 out j).f1) := by
  have hsplit : out = out.take j ++ (rd_T67 out j :: out.drop (j + 1)) := by
    have := drop_Msg out j (by omega) (by omega)
    simp only [Int.toNat_natCast] at this
    rw [show ((j : Int) + 1).toNat = j + 1 by omega] at this
    rw [← this, List.take_append_drop]
  generalize rd_T67 out j = e at *
  rw [hsplit, List.map_append, List.pairwise_append, List.map_cons, List.pairwise_cons] at h
  obtain ⟨_, ⟨h2, _⟩, h3⟩ := h
  refine ⟨fun y hy he => ?_, fun y hy he => ?_⟩
  · have := (h3 (sig y) (List.mem_map_of_mem hy) (sig e) (by simp)).1
    exact this ⟨he.symm, .inl hp⟩
  · have := (h2 (sig y) (List.mem_map_of_mem hy)).2
    exact this ⟨hp, he⟩
theorem mem_rd (out : List S67) (j : Nat) (hj : j < out.length) : rd_T67 out j ∈ out := by
  unfold rd_T67
  rw [List.getD_eq_getElem?_getD, List.getElem?_eq_getElem (by omega)]
  exact List.getElem_mem _
theorem add_inv {out r : List S67} {m : S67} (hi : Inv out (m :: r)) (hm : stays m = true) (ho : overBy m.f1 r = false) : Inv (addTo out m) r ∧ ∀ k x, foldK k (addTo out m) x = foldK k (out ++ [m]) x := by
  obtain ⟨hok, hop, hv⟩ := stays_op hm
  have hold : ∀ x ∈ out, overBy x.f1 r = false := fun x hx => (over_tail (hi.over x hx)).1
  have hset : ∀ x ∈ out, setsKey x.f1 m = false := fun x hx => (over_tail (hi.over x hx)).2 hok
  have hx := idxBy_cases (fun x => decide (x.f1 = m.f1)) out 0
  have hadd : addTo out m = if idxBy (fun x => decide (x.f1 = m.f1)) out 0 ≥ 0 ∧ (rd_T67 out (idxBy (fun x => decide (x.f1 = m.f1)) out 0)).f0 = 1 ∧ m.f0 = 3 then out.set (idxBy (fun x => decide (x.f1 = m.f1)) out 0).toNat ⟨(rd_T67 out (idxBy (fun x => decide (x.f1 = m.f1)) out 0)).f0, (rd_T67 out (idxBy (fun x => decide (x.f1 = m.f1)) out 0)).f1, clampN (wrap64 ((rd_T67 out (idxBy (fun x => decide (x.f1 = m.f1)) out 0)).f2 + m.f2))⟩ else out ++ [m] := rfl
  have app : (∀ z ∈ out, ¬ (z.f0 = 1 ∧ m.f1 = z.f1)) → Inv (out ++ [m]) r := by
    intro hput
    refine ⟨fun x hx => ?_, fun x hx => ?_, ?_⟩
    · rcases List.mem_append.1 hx with h | h
      · exact hi.stay x h
      · rw [List.mem_singleton.1 h]; exact hm
    · rcases List.mem_append.1 hx with h | h
      · exact hold x h
      · rw [List.mem_singleton.1 h]; exact ho
    · rw [List.map_append, List.pairwise_append]
      refine ⟨hi.sep, by simp, fun a ha b hb => ?_⟩
      obtain ⟨z, hz, rfl⟩ := List.mem_map.1 ha
      simp only [List.map_cons, List.map_nil, List.mem_singleton] at hb
      subst hb
      refine ⟨fun e => ?_, hput z hz⟩
      have := hset z hz
      have h2 : setsKey z.f1 m = true := by simp [setsKey]; exact e
      rw [h2] at this
      cases this
  by_cases hc : idxBy (fun x => decide (x.f1 = m.f1)) out 0 ≥ 0 ∧ (rd_T67 out (idxBy (fun x => decide (x.f1 = m.f1)) out 0)).f0 = 1 ∧ m.f0 = 3
  · rw [hadd, if_pos hc]
    rcases hx with ⟨h, _⟩ | ⟨j, h, hj, hbefore, hkey⟩
    · omega
    · rw [h, show (0 : Int) + (j : Int) = (j : Int) by omega] at hc ⊢
      simp only [Int.toNat_natCast]
      have hkey' : (rd_T67 out (j : Nat)).f1 = m.f1 := by simpa using hkey
      obtain ⟨hfar1, hfar2⟩ := sep_put hi.sep j hj hc.2.1
      have hest := hi.stay _ (mem_rd out j hj)
      obtain ⟨heok, _, hev⟩ := stays_op hest
      have hw : wrap64 ((rd_T67 out (j : Nat)).f2 + m.f2) = (rd_T67 out (j : Nat)).f2 + m.f2 := w64 (by omega) (by omega)
      rw [hw]
      have hcl := clampN_in ((rd_T67 out (j : Nat)).f2 + m.f2)
      have hst2 : stays (⟨(rd_T67 out (j : Nat)).f0, (rd_T67 out (j : Nat)).f1, clampN ((rd_T67 out (j : Nat)).f2 + m.f2)⟩ : S67) = true := by
        have hk : 0 ≤ (rd_T67 out (j : Nat)).f1 ∧ (rd_T67 out (j : Nat)).f1 ≤ 999 := by simp [msgOk, inR] at heok; omega
        simp only [stays, msgOk, inR, hc.2.1]
        simp; omega
      have hsplit : out = out.take j ++ (rd_T67 out (j : Nat) :: out.drop (j + 1)) := by
        have := drop_Msg out j (by omega) (by omega)
        simp only [Int.toNat_natCast] at this
        rw [show ((j : Int) + 1).toNat = j + 1 by omega] at this
        rw [← this, List.take_append_drop]
      have hlayout : out.set j (⟨(rd_T67 out (j : Nat)).f0, (rd_T67 out (j : Nat)).f1, clampN ((rd_T67 out (j : Nat)).f2 + m.f2)⟩ : S67) = out.take j ++ ((⟨(rd_T67 out (j : Nat)).f0, (rd_T67 out (j : Nat)).f1, clampN ((rd_T67 out (j : Nat)).f2 + m.f2)⟩ : S67) :: out.drop (j + 1)) := by
        rw [List.set_eq_take_append_cons_drop, if_pos hj]
      generalize he : rd_T67 out (j : Nat) = e at *
      refine ⟨⟨fun x hx => ?_, fun x hx => ?_, ?_⟩, fun k x => ?_⟩
      · rcases List.mem_or_eq_of_mem_set hx with h | h
        · exact hi.stay x h
        · rw [h]; exact hst2
      · rcases List.mem_or_eq_of_mem_set hx with h | h
        · exact hold x h
        · rw [h]; show overBy e.f1 r = false; rw [hkey']; exact ho
      · rw [hlayout, List.map_append, List.map_cons]
        have hs := hi.sep
        rw [hsplit, List.map_append, List.map_cons] at hs
        exact hs
      · rw [hlayout]
        conv => rhs; rw [hsplit]
        simp only [foldK_append, foldK, List.append_assoc]
        by_cases hk : m.f1 = k
        · have hek : e.f1 = k := by omega
          rw [foldK_far k (out.drop (j + 1)) (fun y hy => by rw [← hek]; exact hfar2 y hy), foldK_far k (out.drop (j + 1)) (fun y hy => by rw [← hek]; exact hfar2 y hy)]
          unfold stepK
          rw [if_pos ⟨hst2, hek⟩, if_pos ⟨hm, hk⟩, if_pos ⟨hest, hek⟩]
          unfold eff
          simp only
          rw [if_pos hc.2.1, if_neg (by omega), if_neg (by omega), if_pos hc.2.2, if_pos hc.2.1]
          rfl
        · have s1 : ∀ y, stepK k m y = y := fun y => by unfold stepK; rw [if_neg (fun h => hk h.2)]
          have s2 : ∀ y, stepK k e y = y := fun y => by unfold stepK; rw [if_neg (fun h => hk (by omega))]
          have s3 : ∀ y, stepK k (⟨e.f0, e.f1, clampN (e.f2 + m.f2)⟩ : S67) y = y := fun y => by unfold stepK; rw [if_neg (fun h => hk (by have := h.2; simp only at this; omega))]
          rw [s1, s2, s3]
  · rw [hadd, if_neg hc]
    refine ⟨app (fun z hz e => ?_), fun k x => rfl⟩
    -- a put of the same key: the first of its key is it, and m adds
    have h3 : m.f0 = 3 := by
      have h5 := hset z hz
      rcases hop with h | h | h
      · simp [setsKey, e.2, h] at h5
      · simp [setsKey, e.2, h] at h5
      · exact h
    rcases hx with ⟨h, h2⟩ | ⟨j, h, hj, hbefore, hkey⟩
    · have := h2 z hz
      simp [e.2] at this
    · refine hc ⟨by omega, ?_, h3⟩
      rw [h, show (0 : Int) + (j : Int) = (j : Int) by omega]
      have hkey' : (rd_T67 out (j : Nat)).f1 = m.f1 := by simpa using hkey
      -- z stands somewhere; being a put it is alone of its key
      obtain ⟨i, hi2, hz2⟩ := List.mem_iff_getElem.1 hz
      have hzi : rd_T67 out (i : Nat) = z := by
        unfold rd_T67
        rw [List.getD_eq_getElem?_getD, Int.toNat_natCast, List.getElem?_eq_getElem hi2]
        exact hz2
      obtain ⟨f1, f2⟩ := sep_put hi.sep i hi2 (by rw [hzi]; exact e.1)
      rw [hzi] at f1 f2
      have hij : j = i := by
        rcases Nat.lt_trichotomy j i with hlt | he | hgt
        · exact absurd (by rw [hkey', e.2]) (f1 _ (by
            rw [List.mem_take_iff_getElem]
            refine ⟨j, by omega, ?_⟩
            unfold rd_T67
            rw [List.getD_eq_getElem?_getD, Int.toNat_natCast, List.getElem?_eq_getElem hj]
            rfl))
        · exact he
        · exact absurd (by rw [hkey', e.2]) (f2 _ (by
            rw [List.mem_drop_iff_getElem]
            refine ⟨j - (i + 1), by omega, ?_⟩
            unfold rd_T67
            rw [List.getD_eq_getElem?_getD, Int.toNat_natCast, List.getElem?_eq_getElem hj]
            simp only [Option.getD_some]
            congr 1
            omega))
      rw [hij, hzi]
      exact e.1
theorem shrink_inv (l : List S67) : ∀ out, Inv out l → Inv (shrinkFrom out l) [] ∧ ∀ k x, foldK k (shrinkFrom out l) x = foldK k (out ++ l) x := by
  induction l with
  | nil => intro out hi; exact ⟨hi, fun k x => by rw [List.append_nil]; rfl⟩
  | cons m r ih =>
    intro out hi
    simp only [shrinkFrom]
    by_cases hc : stays m = true ∧ overBy m.f1 r = false
    · rw [if_pos hc]
      obtain ⟨h1, h2⟩ := add_inv hi hc.1 hc.2
      obtain ⟨h3, h4⟩ := ih _ h1
      refine ⟨h3, fun k x => ?_⟩
      rw [h4, foldK_append, h2, foldK_append, foldK_append]
      rfl
    · rw [if_neg hc]
      have hi2 : Inv out r := ⟨hi.stay, fun x hx => (over_tail (hi.over x hx)).1, hi.sep⟩
      obtain ⟨h3, h4⟩ := ih _ hi2
      refine ⟨h3, fun k x => ?_⟩
      rw [h4, foldK_append, foldK_append]
      simp only [foldK]
      by_cases hk : stays m = true ∧ m.f1 = k
      · have ho : overBy k r = true := by
          rw [← hk.2]
          cases hov : overBy m.f1 r with
          | true => rfl
          | false => exact absurd ⟨hk.1, hov⟩ hc
        exact foldK_over k r ho _ _
      · unfold stepK
        rw [if_neg hk]
theorem shrink_again (l : List S67) : ∀ out, (∀ x ∈ l, stays x = true) → ((out ++ l).map sig).Pairwise Sep → shrinkFrom out l = out ++ l := by
  induction l with
  | nil => intro out _ _; simp [shrinkFrom]
  | cons m r ih =>
    intro out hs hp
    have hm := hs m (by simp)
    have hp2 := hp
    rw [List.map_append, List.pairwise_append, List.map_cons, List.pairwise_cons] at hp2
    obtain ⟨_, ⟨hp3, _⟩, hp4⟩ := hp2
    have ho : overBy m.f1 r = false := by
      unfold overBy
      rw [List.any_eq_false]
      intro y hy e
      have := (hp3 (sig y) (List.mem_map_of_mem hy)).1
      simp [setsKey] at e
      exact this ⟨e.2.1, e.2.2⟩
    simp only [shrinkFrom]
    rw [if_pos ⟨hm, ho⟩]
    have hadd : addTo out m = out ++ [m] := by
      unfold addTo
      simp only
      rw [if_neg]
      intro hc
      rcases idxBy_cases (fun x => decide (x.f1 = m.f1)) out 0 with ⟨h, _⟩ | ⟨j, h, hj, _, hkey⟩
      · omega
      · rw [h, show (0 : Int) + (j : Int) = (j : Int) by omega] at hc
        have := (hp4 (sig (rd_T67 out (j : Nat))) (List.mem_map_of_mem (mem_rd out j hj)) (sig m) (by simp)).2
        exact this ⟨hc.2.1, by have h5 : (rd_T67 out (j : Nat)).f1 = m.f1 := by simpa using hkey
                               exact h5.symm⟩
    rw [hadd, ih (out ++ [m]) (fun x hx => hs x (by simp [hx])) (by rw [List.append_assoc]; exact hp), List.append_assoc]
    rfl
theorem shrunk_inv (l : List S67) : Inv (shrinkOf l) [] ∧ ∀ k x, foldK k (shrinkOf l) x = foldK k l x := shrink_inv l [] ⟨fun x hx => (by cases hx), fun x hx => (by cases hx), List.Pairwise.nil⟩
theorem shrunk_again (l : List S67) : shrinkOf (shrinkOf l) = shrinkOf l := by
  obtain ⟨h, _⟩ := shrunk_inv l
  have := shrink_again (shrinkOf l) [] h.stay (by simpa using h.sep)
  simpa [shrinkOf] using this
theorem shrunk_same (l : List S147) (ms : List S67) : mapAllOf l (shrinkOf ms) = mapAllOf l ms := by
  by_cases ho : mapOk l = true
  · exact maps_ext _ _ (-1) (-1) (mapAll_ok _ l ho) (mapAll_ok _ l ho) (fun k => by rw [look_all k _ l ho, look_all k _ l ho, (shrunk_inv ms).2])
  · rw [mapAll_bad _ l ho, mapAll_bad _ l ho]

theorem and255 (x : Int) : 0 ≤ Go.bits .and .i64 x 255 ∧ Go.bits .and .i64 x 255 ≤ 255 := by
  have h : (BitVec.ofInt 64 x).toNat &&& 255 ≤ 255 := Nat.and_le_right
  have e : Go.bits .and .i64 x 255 = IntKind.i64.wrap (((BitVec.ofInt 64 x).toNat &&& 255 : Nat) : Int) := by
    simp only [Go.bits, BitVec.toNat_and]
    rfl
  rw [e, IntKind.wrap_i64]
  omega
/-- Where a cursor over drawn bytes may stand. -/
def Cur (b : List Int) (i : Int) : Prop := 0 ≤ i ∧ i ≤ b.length ∧ b.length ≤ 1048576
theorem byte_ok (b : List Int) (i h : Int) (hc : Cur b i) : ∃ x i' h' : Int, spec_l1Byte.f b i h = some (x, i', h') ∧ 0 ≤ x ∧ x ≤ 255 ∧ Cur b i' := by
  obtain ⟨h0, h1, h2⟩ := hc
  unfold spec_l1Byte.f
  by_cases c : i < b.length
  · rw [if_pos c, if_pos h0, w64 (x := i + 1) (by omega) (by omega)]
    exact ⟨_, _, _, rfl, (and255 _).1, (and255 _).2, by omega, by omega, h2⟩
  · rw [if_neg c]
    exact ⟨_, _, _, rfl, (and255 _).1, (and255 _).2, h0, h1, h2⟩
theorem below_ok (b : List Int) (i h n : Int) (hc : Cur b i) : ∃ x i' h' : Int, spec_l1Below.f b i h n = some (x, i', h') ∧ 0 ≤ x ∧ (0 < n → x < n) ∧ Cur b i' := by
  unfold spec_l1Below.f
  by_cases c : n ≤ 0
  · exact ⟨0, i, h, by rw [if_pos c], by omega, by omega, hc⟩
  · rw [if_neg c]
    obtain ⟨x, i1, h1, e1, a1, b1, c1⟩ := byte_ok b i h hc
    by_cases c2 : n ≤ 256
    · rw [if_pos c2, e1]
      simp only [Option.bind_some]
      rw [if_neg (by omega)]
      exact ⟨_, _, _, rfl, Int.tmod_nonneg _ a1, fun hn => Int.tmod_lt_of_pos _ hn, c1⟩
    · rw [if_neg c2, e1]
      obtain ⟨y, i2, h2, e2, a2, b2, c3⟩ := byte_ok b i1 h1 c1
      obtain ⟨z, i3, h3, e3, a3, b3, c4⟩ := byte_ok b i2 h2 c3
      obtain ⟨w, i4, h4, e4, a4, b4, c5⟩ := byte_ok b i3 h3 c4
      simp only [Option.bind_some, e2, e3, e4]
      rw [if_neg (by omega), w64 (x := x * 16777216) (by omega) (by omega), w64 (x := y * 65536) (by omega) (by omega), w64 (x := z * 256) (by omega) (by omega), w64 (x := x * 16777216 + y * 65536) (by omega) (by omega), w64 (x := x * 16777216 + y * 65536 + z * 256) (by omega) (by omega), w64 (x := x * 16777216 + y * 65536 + z * 256 + w) (by omega) (by omega)]
      exact ⟨_, _, _, rfl, Int.tmod_nonneg _ (by omega), fun hn => Int.tmod_lt_of_pos _ hn, c5⟩
theorem once_ok (b : List Int) (i h n : Int) (hc : Cur b i) : ∃ (x : Bool) (i' h' : Int), spec_l1Once.f b i h n = some (x, i', h') ∧ Cur b i' := by
  obtain ⟨x, i1, h1, e, _, _, c⟩ := below_ok b i h n hc
  exact ⟨_, i1, h1, by unfold spec_l1Once.f; rw [e]; rfl, c⟩
theorem pick_ok (b : List Int) (i h : Int) (l : List Int) (hl : 0 < l.length) (hc : Cur b i) : ∃ x i' h' : Int, spec_l1PickInt.f b i h l = some (x, i', h') ∧ x ∈ l ∧ Cur b i' := by
  obtain ⟨x, i1, h1, e, a1, a2, c⟩ := below_ok b i h l.length hc
  have := a2 (by omega)
  refine ⟨rd l x, i1, h1, ?_, ?_, c⟩
  · unfold spec_l1PickInt.f
    rw [e]
    simp only [Option.bind_some]
    rw [if_pos a1, if_pos this]
  · unfold rd
    rw [List.getD_eq_getElem?_getD, List.getElem?_eq_getElem (by omega)]
    exact List.getElem_mem _

theorem new_l0 (b : List Int) (hb : b.length ≤ 1048576) : ∀ (d : Nat) (h i : Int), 0 ≤ i → i ≤ b.length → (b.length : Int) - i = d → ∃ h', Ev (fun k => spec_l1New.l0 k b h i) (b, 0, h') := by
  intro d
  induction d with
  | zero =>
    intro h i h0 h1 hd
    exact ⟨h, ev_step (fun k => by simp only [spec_l1New.l0]; exact rfl) (ev_neg (by omega) (ev_some _))⟩
  | succ d ih =>
    intro h i h0 h1 hd
    have wi : wrap64 (i + 1) = i + 1 := w64 (by omega) (by omega)
    by_cases c : i < 4000
    · obtain ⟨h', e⟩ := ih (Go.bits .and .i64 (wrap64 ((wrap64 ((wrap64 (h * 131)) + (wrap64 (rd b i)))) + 7)) 1073741823) (i + 1) (by omega) (by omega) (by omega)
      refine ⟨h', ev_step (fun k => by simp only [spec_l1New.l0, wi]; exact rfl) ?_⟩
      exact ev_pos (by omega) (ev_pos c (ev_pos h0 e))
    · refine ⟨h, ev_step (fun k => by simp only [spec_l1New.l0, wi]; exact rfl) ?_⟩
      exact ev_pos (by omega) (ev_neg c (ev_some _))
theorem new_ok (b : List Int) (hb : b.length ≤ 1048576) : ∃ h, Ev (fun k => spec_l1New.f k b) (b, 0, h) ∧ Cur b 0 := by
  obtain ⟨h, e⟩ := new_l0 b hb b.length (wrap64 (18665 + (b.length : Int))) 0 (by omega) (by omega) (by omega)
  exact ⟨h, by unfold spec_l1New.f; exact e, by omega, by omega, hb⟩
theorem key_ok (b : List Int) (i h : Int) (hc : Cur b i) : ∃ x i' h' : Int, spec_l1DrawKey.f b i h = some (x, i', h') ∧ 0 ≤ x ∧ x ≤ 999 ∧ Cur b i' := by
  unfold spec_l1DrawKey.f
  obtain ⟨o, i1, h1, e1, c1⟩ := once_ok b i h 15 hc
  rw [e1]
  simp only [Option.bind_some]
  cases o with
  | true =>
    obtain ⟨x, i2, h2, e2, m2, c2⟩ := pick_ok b i1 h1 [0, 999, 500] (by simp) c1
    rw [if_pos rfl, e2]
    refine ⟨x, i2, h2, rfl, ?_, ?_, c2⟩ <;> (simp at m2; omega)
  | false =>
    obtain ⟨x, i2, h2, e2, a2, b2, c2⟩ := below_ok b i1 h1 30 c1
    have := b2 (by omega)
    rw [if_neg (by simp), e2]
    exact ⟨x, i2, h2, rfl, a2, by omega, c2⟩

theorem drawmap_l0 (b : List Int) (n : Int) : ∀ (d : Nat) (l : List S147) (x i h : Int), 0 ≤ x → x ≤ n → n - x = d → n ≤ 1000 → l.length + d ≤ 1000 → Cur b i → ∃ (l' : List S147) (i' h' : Int), Ev (fun k => spec_l1DrawMap.l0 k l n x b i h) (l', i', h') ∧ l'.length ≤ l.length + d ∧ Cur b i' := by
  intro d
  induction d with
  | zero =>
    intro l x i h h0 h1 hd hn hl hc
    exact ⟨l, i, h, ev_step (fun k => by simp only [spec_l1DrawMap.l0]; exact rfl) (ev_neg (by omega) (ev_some _)), by omega, hc⟩
  | succ d ih =>
    intro l x i h h0 h1 hd hn hl hc
    obtain ⟨a, i1, h1', e1, _, _, c1⟩ := key_ok b i h hc
    obtain ⟨v, i2, h2, e2, _, _, c2⟩ := below_ok b i1 h1' 50 c1
    have hlen := putFrom_len a (wrap64 (v - 9)) l false
    simp only [Bool.false_eq_true, if_false] at hlen
    have wx : wrap64 (x + 1) = x + 1 := w64 (by omega) (by omega)
    obtain ⟨l', i', h', e, hl', c'⟩ := ih (putFrom a (wrap64 (v - 9)) false l) (x + 1) i2 h2 (by omega) (by omega) (by omega) hn (by omega) c2
    refine ⟨l', i', h', ev_step (fun k => by simp only [spec_l1DrawMap.l0, wx, e1, e2, Option.bind_some]; exact rfl) ?_, by omega, c'⟩
    refine ev_pos (by omega) ?_
    exact ev_bind (spec_put l a _ (by omega)) e
theorem drawmap_ok (b : List Int) (i h n : Int) (h0 : 0 ≤ n) (h1 : n ≤ 100) (hc : Cur b i) : ∃ (l : List S147) (i' h' : Int), Ev (fun k => spec_l1DrawMap.f k b i h n) (l, i', h') ∧ l.length ≤ 100 ∧ Cur b i' := by
  unfold spec_l1DrawMap.f
  rw [w64 (by omega) (by omega)]
  obtain ⟨m, i1, h1', e1, a1, b1, c1⟩ := below_ok b i h (n + 1) hc
  have := b1 (by omega)
  obtain ⟨l, i2, h2, e2, hl, c2⟩ := drawmap_l0 b m m.toNat [] 0 i1 h1' (by omega) (by omega) (by omega) (by omega) (by simp; omega) c1
  refine ⟨l, i2, h2, ?_, by simp at hl; omega, c2⟩
  rw [e1]
  exact ev_bind (f := fun _ => some (m, i1, h1')) (ev_some _) e2
theorem badmap_ok (b : List Int) (i h : Int) (hc : Cur b i) : ∃ (l : List S147) (i' h' : Int), Ev (fun k => spec_l1DrawBadMap.f k b i h) (l, i', h') ∧ l.length ≤ 101 ∧ Cur b i' := by
  obtain ⟨l, i1, h1, e1, hl, c1⟩ := drawmap_ok b i h 8 (by omega) (by omega) hc
  obtain ⟨x, i2, h2, e2, _, _, c2⟩ := below_ok b i1 h1 15 c1
  by_cases x0 : x = 0
  · obtain ⟨y, i3, h3, e3, _, _, c3⟩ := below_ok b i2 h2 9 c2
    refine ⟨l ++ [⟨y, 0⟩], i3, h3, ?_, by simp; omega, c3⟩
    unfold spec_l1DrawBadMap.f
    refine ev_bind e1 ?_
    refine ev_bind (ev_all (fun k => e2)) ?_
    refine ev_pos x0 ?_
    refine ev_bind (ev_all (fun k => e3)) ?_
    exact ev_pos (by simp only; omega) (ev_some _)
  · by_cases x1 : x = 1
    · obtain ⟨y, i3, h3, e3, _, c3⟩ := pick_ok b i2 h2 [1000000000, 1000000001] (by simp) c2
      refine ⟨l ++ [⟨999, y⟩], i3, h3, ?_, by simp; omega, c3⟩
      unfold spec_l1DrawBadMap.f
      refine ev_bind e1 ?_
      refine ev_bind (ev_all (fun k => e2)) ?_
      refine ev_neg x0 ?_
      refine ev_pos x1 ?_
      refine ev_bind (ev_all (fun k => e3)) ?_
      exact ev_pos (by simp only; omega) (ev_some _)
    · refine ⟨l, i2, h2, ?_, by omega, c2⟩
      unfold spec_l1DrawBadMap.f
      refine ev_bind e1 ?_
      refine ev_bind (ev_all (fun k => e2)) ?_
      refine ev_neg x0 ?_
      refine ev_neg x1 ?_
      exact ev_some _

theorem drawmsg_ok (b : List Int) (i h : Int) (hc : Cur b i) : ∃ (op a v i' h' : Int), Ev (fun k => spec_l1DrawMsg.f k b i h) (op, a, v, i', h') ∧ (1 ≤ op ∧ op ≤ 4) ∧ (0 ≤ a ∧ a ≤ 999) ∧ Cur b i' := by
  obtain ⟨op, i1, h1, e1, m1, c1⟩ := pick_ok b i h [1, 1, 1, 2, 3, 3, 4] (by simp) hc
  have hop : 1 ≤ op ∧ op ≤ 4 := by simp at m1; omega
  obtain ⟨a, i2, h2, e2, a0, a1, c2⟩ := key_ok b i1 h1 c1
  have j : ∀ x : Bool, ∃ (v i' h' : Int), Ev (fun k => spec_l1DrawMsg.j0 k x b i2 h2 op a 0) (op, a, v, i', h') ∧ Cur b i' := by
    intro x
    cases x with
    | true =>
      obtain ⟨y, i3, h3, e3, _, _, c3⟩ := below_ok b i2 h2 99 c2
      obtain ⟨z, i4, h4, e4, _, c4⟩ := pick_ok b i3 h3 [1, (-2), 5, 700, 1000000000, (-1000000000), y] (by simp) c3
      refine ⟨z, i4, h4, ev_step (fun k => by simp only [spec_l1DrawMsg.j0, e3, e4, Option.bind_some, if_true]) (ev_some _), c4⟩
    | false =>
      exact ⟨0, i2, h2, ev_step (fun k => by simp only [spec_l1DrawMsg.j0, Bool.false_eq_true, if_false]) (ev_some _), c2⟩
  unfold spec_l1DrawMsg.f
  by_cases hp : op = 1
  · obtain ⟨v, i3, h3, e3, c3⟩ := j true
    refine ⟨op, a, v, i3, h3, ?_, hop, ⟨a0, a1⟩, c3⟩
    refine ev_bind (ev_all (fun k => e1)) ?_
    refine ev_bind (ev_all (fun k => e2)) ?_
    exact ev_pos hp e3
  · obtain ⟨v, i3, h3, e3, c3⟩ := j (op == 3)
    refine ⟨op, a, v, i3, h3, ?_, hop, ⟨a0, a1⟩, c3⟩
    refine ev_bind (ev_all (fun k => e1)) ?_
    refine ev_bind (ev_all (fun k => e2)) ?_
    exact ev_neg hp e3
theorem drawbad_ok (b : List Int) (i h : Int) (hc : Cur b i) : ∃ (op a v i' h' : Int), Ev (fun k => spec_l1DrawBad.f k b i h) (op, a, v, i', h') ∧ Cur b i' := by
  obtain ⟨op, a, v, i1, h1, e1, _, _, c1⟩ := drawmsg_ok b i h hc
  obtain ⟨x, i2, h2, e2, _, _, c2⟩ := below_ok b i1 h1 15 c1
  unfold spec_l1DrawBad.f
  by_cases x0 : x = 0
  · obtain ⟨y, i3, h3, e3, _, _, c3⟩ := below_ok b i2 h2 7 c2
    refine ⟨wrap64 (y - 1), a, v, i3, h3, ?_, c3⟩
    refine ev_bind e1 ?_
    refine ev_bind (ev_all (fun k => e2)) ?_
    refine ev_pos x0 ?_
    exact ev_bind (ev_all (fun k => e3)) (ev_some _)
  · by_cases x1 : x = 1
    · obtain ⟨y, i3, h3, e3, _, c3⟩ := pick_ok b i2 h2 [(-1), 1000] (by simp) c2
      refine ⟨op, y, v, i3, h3, ?_, c3⟩
      refine ev_bind e1 ?_
      refine ev_bind (ev_all (fun k => e2)) ?_
      refine ev_neg x0 ?_
      refine ev_pos x1 ?_
      exact ev_bind (ev_all (fun k => e3)) (ev_some _)
    · by_cases x2 : x = 2
      · obtain ⟨y, i3, h3, e3, _, c3⟩ := pick_ok b i2 h2 [1000000001, 3] (by simp) c2
        refine ⟨op, a, y, i3, h3, ?_, c3⟩
        refine ev_bind e1 ?_
        refine ev_bind (ev_all (fun k => e2)) ?_
        refine ev_neg x0 ?_
        refine ev_neg x1 ?_
        refine ev_pos x2 ?_
        exact ev_bind (ev_all (fun k => e3)) (ev_some _)
      · refine ⟨op, a, v, i2, h2, ?_, c2⟩
        refine ev_bind e1 ?_
        refine ev_bind (ev_all (fun k => e2)) ?_
        refine ev_neg x0 ?_
        refine ev_neg x1 ?_
        exact ev_neg x2 (ev_some _)

theorem drawmsgs_l0 (b : List Int) (n : Int) : ∀ (d : Nat) (l : List S67) (x i h : Int), 0 ≤ x → x ≤ n → n - x = d → n ≤ 1000 → l.length + d ≤ 1000 → Cur b i → ∃ (l' : List S67) (i' h' : Int), Ev (fun k => spec_l1DrawMsgs.l0 k l n x b i h) (l', i', h') ∧ l'.length ≤ l.length + d ∧ Cur b i' := by
  intro d
  induction d with
  | zero =>
    intro l x i h h0 h1 hd hn hl hc
    exact ⟨l, i, h, ev_step (fun k => by simp only [spec_l1DrawMsgs.l0]; exact rfl) (ev_neg (by omega) (ev_some _)), by omega, hc⟩
  | succ d ih =>
    intro l x i h h0 h1 hd hn hl hc
    obtain ⟨op, a, v, i1, h1', e1, c1⟩ := drawbad_ok b i h hc
    obtain ⟨o, i2, h2, e2, c2⟩ := once_ok b i1 h1' 2 c1
    have wx : wrap64 (x + 1) = x + 1 := w64 (by omega) (by omega)
    cases o with
    | true =>
      obtain ⟨l', i', h', e, hl', c'⟩ := ih (l ++ [(⟨op, Int.tmod a 5, v⟩ : S67)]) (x + 1) i2 h2 (by omega) (by omega) (by omega) hn (by simp; omega) c2
      refine ⟨l', i', h', ev_step (fun k => by simp only [spec_l1DrawMsgs.l0, wx]; exact rfl) ?_, by simp at hl'; omega, c'⟩
      refine ev_pos (by omega) ?_
      refine ev_bind e1 ?_
      refine ev_bind (ev_all (fun k => e2)) ?_
      refine ev_pos (by rfl) ?_
      exact ev_pos (by omega) e
    | false =>
      obtain ⟨l', i', h', e, hl', c'⟩ := ih (l ++ [(⟨op, a, v⟩ : S67)]) (x + 1) i2 h2 (by omega) (by omega) (by omega) hn (by simp; omega) c2
      refine ⟨l', i', h', ev_step (fun k => by simp only [spec_l1DrawMsgs.l0, wx]; exact rfl) ?_, by simp at hl'; omega, c'⟩
      refine ev_pos (by omega) ?_
      refine ev_bind e1 ?_
      refine ev_bind (ev_all (fun k => e2)) ?_
      refine ev_neg (by simp) ?_
      exact ev_pos (by omega) e
theorem drawmsgs_ok (b : List Int) (i h n : Int) (h0 : 0 ≤ n) (h1 : n ≤ 100) (hc : Cur b i) : ∃ (l : List S67) (i' h' : Int), Ev (fun k => spec_l1DrawMsgs.f k b i h n) (l, i', h') ∧ l.length ≤ 100 ∧ Cur b i' := by
  unfold spec_l1DrawMsgs.f
  rw [w64 (by omega) (by omega)]
  obtain ⟨m, i1, h1', e1, a1, b1, c1⟩ := below_ok b i h (n + 1) hc
  have := b1 (by omega)
  obtain ⟨l, i2, h2, e2, hl, c2⟩ := drawmsgs_l0 b m m.toNat [] 0 i1 h1' (by omega) (by omega) (by omega) (by omega) (by simp; omega) c1
  refine ⟨l, i2, h2, ?_, by simp at hl; omega, c2⟩
  rw [e1]
  exact ev_bind (f := fun _ => some (m, i1, h1')) (ev_some _) e2

theorem drawmapall_ok (b : List Int) (hb : b.length ≤ 1048576) : ∃ (l : List S147) (ms : List S67), Ev (fun k => spec_DrawMapAll.f k b) (l, ms) ∧ l.length ≤ 101 ∧ ms.length ≤ 100 := by
  obtain ⟨h0, e0, c0⟩ := new_ok b hb
  obtain ⟨l, i1, h1, e1, hl, c1⟩ := badmap_ok b 0 h0 c0
  obtain ⟨ms, i2, h2, e2, hm, c2⟩ := drawmsgs_ok b i1 h1 12 (by omega) (by omega) c1
  refine ⟨l, ms, ?_, hl, hm⟩
  unfold spec_DrawMapAll.f
  exact ev_bind e0 (ev_bind e1 (ev_bind e2 (ev_some _)))

theorem same_pairs_l0 (l : List S147) (hl : l.length ≤ 140737488355328) : ∀ (d : Nat) (i : Int), 0 ≤ i → i ≤ l.length → (l.length : Int) - i = d → Ev (fun k => laws_samePairs.l0 k l l i) true := by
  intro d
  induction d with
  | zero =>
    intro i h0 h1 hd
    exact ev_step (fun k => by simp only [laws_samePairs.l0]; exact rfl) (ev_neg (by omega) (ev_some _))
  | succ d ih =>
    intro i h0 h1 hd
    have wi : wrap64 (i + 1) = i + 1 := w64 (by omega) (by omega)
    refine ev_step (fun k => by simp only [laws_samePairs.l0, wi]; exact rfl) ?_
    refine ev_pos (by omega) (ev_pos h0 (ev_pos (by omega) (ev_neg (by simp) ?_)))
    exact ih (i + 1) (by omega) (by omega) (by omega)
theorem same_pairs (l : List S147) (hl : l.length ≤ 140737488355328) : Ev (fun k => laws_samePairs.f k l l) true := by
  unfold laws_samePairs.f
  exact ev_pos rfl (same_pairs_l0 l hl l.length 0 (by omega) (by omega) (by omega))

theorem same_msgs_l0 (l : List S67) (hl : l.length ≤ 140737488355328) : ∀ (d : Nat) (i : Int), 0 ≤ i → i ≤ l.length → (l.length : Int) - i = d → Ev (fun k => laws_sameMsgs.l0 k l l i) true := by
  intro d
  induction d with
  | zero =>
    intro i h0 h1 hd
    exact ev_step (fun k => by simp only [laws_sameMsgs.l0]; exact rfl) (ev_neg (by omega) (ev_some _))
  | succ d ih =>
    intro i h0 h1 hd
    have wi : wrap64 (i + 1) = i + 1 := w64 (by omega) (by omega)
    refine ev_step (fun k => by simp only [laws_sameMsgs.l0, wi]; exact rfl) ?_
    refine ev_pos (by omega) (ev_pos h0 (ev_pos (by omega) (ev_neg (by simp) ?_)))
    exact ih (i + 1) (by omega) (by omega) (by omega)
theorem same_msgs (l : List S67) (hl : l.length ≤ 140737488355328) : Ev (fun k => laws_sameMsgs.f k l l) true := by
  unfold laws_sameMsgs.f
  exact ev_pos rfl (same_msgs_l0 l hl l.length 0 (by omega) (by omega) (by omega))
theorem drawshrink_ok (b : List Int) (hb : b.length ≤ 1048576) : ∃ ms : List S67, Ev (fun k => spec_DrawShrink.f k b) ms ∧ ms.length ≤ 100 := by
  obtain ⟨h0, e0, c0⟩ := new_ok b hb
  obtain ⟨ms, i2, h2, e2, hm, c2⟩ := drawmsgs_ok b 0 h0 14 (by omega) (by omega) c0
  refine ⟨ms, ?_, hm⟩
  unfold spec_DrawShrink.f
  exact ev_bind e0 (ev_bind e2 (ev_some _))
theorem law_of {l : List Int} (h : Ev (fun k => laws_FnShrunk.f k l) true) : ∃ k, laws_FnShrunk.f k l = some true := by
  obtain ⟨k, hk⟩ := h
  exact ⟨k, hk k (Nat.le_refl _)⟩
theorem FnShrunk : OpnFnShrunk.Pure := by
  intro b _
  refine law_of ?_
  unfold laws_FnShrunk.f laws_big.f
  by_cases hb : (b.length : Int) > 1048576
  · exact ev_bind (f := fun _ => some (decide ((b.length : Int) > 1048576))) (ev_some _) (ev_pos (by simpa using hb) (ev_some _))
  refine ev_bind (f := fun _ => some (decide ((b.length : Int) > 1048576))) (ev_some _) ?_
  refine ev_neg (by simpa using hb) ?_
  obtain ⟨ms, es, hms⟩ := drawshrink_ok b (by omega)
  obtain ⟨l, ms2, ed, hl, _⟩ := drawmapall_ok b (by omega)
  have hlen : (shrinkOf ms).length ≤ ms.length := by
    have := shrinkFrom_len ms []
    simp only [List.length_nil, Nat.zero_add] at this
    exact this
  have hsame := shrunk_same l ms
  have hinv := (shrunk_inv ms).1
  have hagain := impl_shrink (shrinkOf ms) (by omega)
  rw [shrunk_again] at hagain
  have hi := impl_shrink ms (by omega)
  have hs := spec_shrink ms (by omega)
  have e1 := impl_mapall l (shrinkOf ms) (by omega) (by omega)
  have e2 := impl_mapall l ms (by omega) (by omega)
  rw [hsame] at e1
  have hml := mapAll_len ms l
  generalize shrinkOf ms = s at *
  refine ev_bind es ?_
  refine ev_bind ed ?_
  refine ev_bind hi ?_
  refine ev_bind hs ?_
  refine ev_bind (same_msgs s (by omega)) ?_
  refine ev_pos (by rfl) ?_
  refine ev_neg (by omega) ?_
  refine ev_bind hagain ?_
  refine ev_bind (same_msgs s (by omega)) ?_
  refine ev_step (fun k => by simp only [laws_FnShrunk.j0]; exact rfl) ?_
  refine ev_neg (by simp) ?_
  have loop : ∀ (d : Nat) (i : Int), 0 ≤ i → i ≤ s.length → (s.length : Int) - i = d → Ev (fun k => laws_FnShrunk.l0 k ms l s i) true := by
    intro d
    induction d with
    | zero =>
      intro i h0 h1 hd
      refine ev_step (fun k => by simp only [laws_FnShrunk.l0]; exact rfl) ?_
      refine ev_neg (by omega) ?_
      refine ev_bind e1 ?_
      refine ev_bind e2 ?_
      exact ev_bind (same_pairs _ (by omega)) (ev_some _)
    | succ d ih =>
      intro i h0 h1 hd
      have wi : wrap64 (i + 1) = i + 1 := w64 (by omega) (by omega)
      have hmem : rd_T67 s i ∈ s := by
        have := mem_rd s i.toNat (by omega)
        rwa [show ((i.toNat : Nat) : Int) = i by omega] at this
      obtain ⟨hm, hop, _⟩ := stays_op (hinv.stay _ hmem)
      refine ev_step (fun k => by simp only [laws_FnShrunk.l0, wi]; exact rfl) ?_
      refine ev_pos (by omega) ?_
      refine ev_pos h0 ?_
      refine ev_bind (ev_of 1 (fun k hk => impl_msgok _ _ _ k hk)) ?_
      refine ev_pos hm ?_
      refine ev_neg (by omega) ?_
      exact ih (i + 1) (by omega) (by omega) (by omega)
  exact loop s.length 0 (by omega) (by omega) (by omega)

end Go.Proofs.Ytphlmbhjeoljoaa.Pure
