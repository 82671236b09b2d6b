/- Some of the program and of the reference make the same disk of every disk, row of writes and choice of them, in memory of its own, and leave all three alone: no conditions. -/
import Derived.Test.YtphlmbhjeoljoaaOpnFnExactSome
import Derived.Test.YtphlmbhjeoljoaaPFnExactSomex
namespace Go.Proofs.Ytphlmbhjeoljoaa.Pure
open Go.RowKit Go.Proofs.Ytphlmbhjeoljoaa.PFnExactSome Go.Proofs.YtphlmbhjeoljoaaW.PrintWords Go.Proofs.YtphlmbhjeoljoaaW.PrintLast Go.Proofs.YtphlmbhjeoljoaaW.PrintMore Go.Proofs.Ytphlmbhjeoljoaa.OpnFnExactSome

theorem w64 {x : Int} (h0 : -9223372036854775808 ≤ x) (h1 : x ≤ 9223372036854775807) : wrap64 x = x := by
  unfold wrap64
  omega

theorem wf_i64 {a : Int} (h : (Lit.int .i64 a).wf = true) : -9223372036854775808 ≤ a ∧ a ≤ 9223372036854775807 := by
  simp [Lit.wf] at h
  have h1 : IntKind.min .i64 = -9223372036854775808 := by decide
  have h2 : IntKind.max .i64 = 9223372036854775807 := by decide
  omega


/-- From some number of rounds on, f tells v. -/
def Ev {α : Type} (f : Nat → Option α) (v : α) : Prop := ∃ k0, ∀ k, k0 ≤ k → f k = some v
theorem ev_of {α : Type} {f : Nat → Option α} {v : α} (n : Nat) (h : ∀ k, n < k → f k = some v) : Ev f v := ⟨n + 1, fun k hk => h k (by omega)⟩
theorem ev_all {α : Type} {f : Nat → Option α} {v : α} (h : ∀ k, f k = some v) : Ev f v := ⟨0, fun k _ => h k⟩
theorem ev_some {α : Type} (v : α) : Ev (fun _ => some v) v := ⟨0, fun _ _ => rfl⟩
theorem ev_eq {α : Type} {f : Nat → Option α} {v u : α} (h : Ev f v) (e : v = u) : Ev f u := e ▸ h
theorem ev_bind {α β : Type} {f : Nat → Option α} {g : Nat → α → Option β} {a : α} {b : β} (hf : Ev f a) (hg : Ev (fun k => g k a) b) : Ev (fun k => (f k).bind (g k)) b := by
  obtain ⟨m, hm⟩ := hf
  obtain ⟨n, hn⟩ := hg
  refine ⟨m + n, fun k hk => ?_⟩
  show (f k).bind (g k) = _
  rw [hm k (by omega)]
  exact hn k (by omega)
theorem ev_step {α : Type} {f g : Nat → Option α} {v : α} (e : ∀ k, f (k + 1) = g k) (h : Ev g v) : Ev f v := by
  obtain ⟨n, hn⟩ := h
  refine ⟨n + 1, fun k hk => ?_⟩
  obtain ⟨k, rfl⟩ : ∃ m, k = m + 1 := ⟨k - 1, by omega⟩
  rw [e]; exact hn k (by omega)
theorem ev_pos {α : Type} {f g : Nat → Option α} {v : α} {c : Prop} [Decidable c] (hc : c) (h : Ev f v) : Ev (fun k => if c then f k else g k) v := by simpa only [if_pos hc] using h
theorem ev_neg {α : Type} {f g : Nat → Option α} {v : α} {c : Prop} [Decidable c] (hc : ¬ c) (h : Ev g v) : Ev (fun k => if c then f k else g k) v := by simpa only [if_neg hc] using h
theorem ev_tt {α : Type} {f g : Nat → Option α} {v : α} (h : Ev f v) : Ev (fun k => if true = true then f k else g k) v := ev_pos rfl h

/-- From lo to hi. -/
def inR (a lo hi : Int) : Bool := decide (lo ≤ a) && decide (a ≤ hi)

theorem spec_in (a lo hi : Int) : spec_l1In.f a lo hi = some (inR a lo hi) := by
  unfold spec_l1In.f inR
  by_cases h : a ≥ lo
  · rw [if_pos h]; simp [h]
  · rw [if_neg h]; simp; omega


theorem impl_in (a lo hi : Int) : impl_within.f a lo hi = some (inR a lo hi) := by
  unfold impl_within.f inR
  by_cases h : a ≥ lo
  · rw [if_pos h]; simp [h]
  · rw [if_neg h]; simp; omega


theorem drop_Write (l : List S168) (i : Int) (h0 : 0 ≤ i) (h1 : i < l.length) : l.drop i.toNat = rd_T168 l i :: l.drop (i + 1).toNat := by
  rw [List.drop_eq_getElem_cons (by omega)]
  congr 1
  · unfold rd_T168
    rw [List.getD_eq_getElem?_getD, List.getElem?_eq_getElem (by omega)]
    rfl
  · congr 1
    omega

/-- Rows of texts: what they weigh, copies, marks. -/
theorem rdS_mem (l : List ByteArray) (i : Int) (h0 : 0 ≤ i) (h1 : i < l.length) : rdOf ByteArray.empty l i ∈ l := by
  unfold rdOf
  rw [List.getD_eq_getElem?_getD, List.getElem?_eq_getElem (by omega)]
  exact List.getElem_mem _
theorem szStr_row (l : List ByteArray) (hl : l.length ≤ 8796093022208) (hz : ∀ x ∈ l, x.size ≤ 140737488351232) (d : Nat) : ∀ (i b : Int), 0 ≤ i → i ≤ l.length → (l.length : Int) - i = d → 0 ≤ b → b ≤ 1048576 → ∃ r, Ev (fun k => laws_szStringS.l0 k l b i) r ∧ r ≤ b := by
  induction d with
  | zero =>
    intro i b h0 hi hd hb hb2
    exact ⟨b, ev_step (fun k => by simp only [laws_szStringS.l0]; exact rfl) (ev_neg (by omega) (ev_some b)), by omega⟩
  | succ d ih =>
    intro i b h0 hi hd hb hb2
    have hs := hz _ (rdS_mem l i h0 (by omega))
    have e1 : wrap64 (b - ((rdOf ByteArray.empty l i).size : Int)) = b - ((rdOf ByteArray.empty l i).size : Int) := w64 (by omega) (by omega)
    have e2 : wrap64 (i + 1) = i + 1 := w64 (by omega) (by omega)
    by_cases hr : b - ((rdOf ByteArray.empty l i).size : Int) < 0
    · exact ⟨-1, ev_step (fun k => by simp only [laws_szStringS.l0, e1, e2]; exact rfl) (ev_pos (by omega) (ev_pos h0 (ev_pos hr (ev_some _)))), by omega⟩
    · obtain ⟨r, e, l1⟩ := ih (i + 1) (b - ((rdOf ByteArray.empty l i).size : Int)) (by omega) (by omega) (by omega) (by omega) (by omega)
      exact ⟨r, ev_step (fun k => by simp only [laws_szStringS.l0, e1, e2]; exact rfl) (ev_pos (by omega) (ev_pos h0 (ev_neg hr e))), by omega⟩
theorem szStr (l : List ByteArray) (hl : l.length ≤ 8796093022208) (hz : ∀ x ∈ l, x.size ≤ 140737488351232) (b : Int) (hb : 0 ≤ b) (hb2 : b ≤ 1048576) : ∃ r, Ev (fun k => laws_szStringS.f k l b) r ∧ r ≤ b ∧ (0 ≤ r → l.length ≤ 1048576) := by
  have e1 : wrap64 (b - (l.length : Int)) = b - (l.length : Int) := w64 (by omega) (by omega)
  unfold laws_szStringS.f
  rw [e1]
  by_cases hr : b - (l.length : Int) < 0
  · exact ⟨-1, ev_pos hr (ev_some _), by omega, by omega⟩
  · obtain ⟨r, e, h⟩ := szStr_row l hl hz l.length 0 (b - l.length) (by omega) (by omega) (by omega) (by omega) (by omega)
    exact ⟨r, ev_neg hr e, by omega, by omega⟩
theorem toStr_l0 (d : Nat) : ∀ (x y : List ByteArray) (i : Int), 0 ≤ i → i ≤ x.length → y.length = x.length → (x.length : Int) - i = d → x.length ≤ 140737488355328 → (∀ j : Nat, (j : Int) < i → y[j]? = x[j]?) → Ev (fun k => laws_toStringS.l0 k x y i) x := by
  induction d with
  | zero =>
    intro x y i h0 h1 hy hd hx h
    refine ev_step (fun k => by simp only [laws_toStringS.l0]; exact rfl) (ev_neg (by omega) (ev_eq (ev_some y) ?_))
    apply List.ext_getElem?
    intro j
    by_cases hj : j < x.length
    · exact h j (by omega)
    · rw [List.getElem?_eq_none (by omega), List.getElem?_eq_none (by omega)]
  | succ d ih =>
    intro x y i h0 h1 hy hd hx h
    have e2 : wrap64 (i + 1) = i + 1 := w64 (by omega) (by omega)
    refine ev_step (fun k => by simp only [laws_toStringS.l0, e2]; exact rfl) (ev_pos (by omega) (ev_pos h0 (ev_pos (by omega) (ih x _ (i + 1) (by omega) (by omega) (by simpa using hy) (by omega) hx (fun j hj => ?_)))))
    by_cases he : (j : Int) = i
    · have hj2 : (i : Int).toNat = j := by omega
      rw [hj2, List.getElem?_set_self (by omega), List.getElem?_eq_getElem (by omega)]
      unfold rdOf
      rw [hj2, List.getD_eq_getElem?_getD, List.getElem?_eq_getElem (by omega)]
      rfl
    · rw [← h j (by omega), List.getElem?_set_ne (by omega)]
theorem toStr (x : List ByteArray) (hx : x.length ≤ 1048576) : Ev (fun k => laws_toStringS.f k x) x := by
  unfold laws_toStringS.f
  exact ev_pos (by omega) (ev_pos (by omega) (toStr_l0 x.length x _ 0 (by omega) (by omega) (by simp) (by omega) (by omega) (fun j hj => by omega)))
theorem eqStr_l0 (d : Nat) : ∀ (x : List ByteArray) (i : Int), 0 ≤ i → i ≤ x.length → (x.length : Int) - i = d → x.length ≤ 140737488355328 → Ev (fun k => laws_eqStringS.l0 k x x i) true := by
  induction d with
  | zero =>
    intro x i h0 h1 hd hx
    exact ev_step (fun k => by simp only [laws_eqStringS.l0]; exact rfl) (ev_neg (by omega) (ev_some _))
  | succ d ih =>
    intro x i h0 h1 hd hx
    have e2 : wrap64 (i + 1) = i + 1 := w64 (by omega) (by omega)
    exact ev_step (fun k => by simp only [laws_eqStringS.l0, e2]; exact rfl) (ev_pos (by omega) (ev_pos h0 (ev_pos (by omega) (ev_pos trivial (ih x (i + 1) (by omega) (by omega) (by omega) hx)))))
theorem eqStr (x : List ByteArray) (hx : x.length ≤ 140737488355328) : Ev (fun k => laws_eqStringS.f k x x) true := by
  unfold laws_eqStringS.f
  exact ev_pos rfl (eqStr_l0 x.length x 0 (by omega) (by omega) (by omega) hx)
/-- The text of a mark. -/
theorem mt_l0 (n : Nat) : ∀ (a : Int) (acc : ByteArray), 0 ≤ a → a ≤ n → (acc.size : Int) + a ≤ 9223372036854775800 → ∃ s, Ev (fun k => laws_markText.l0 k a acc) s := by
  induction n with
  | zero =>
    intro a acc h0 h1 h2
    exact ⟨_, ev_step (fun k => by simp only [laws_markText.l0]; exact rfl) (ev_neg (by omega) (ev_pos (by omega) (ev_some _)))⟩
  | succ n ih =>
    intro a acc h0 h1 h2
    by_cases hp : a > 0
    · have hd : Int.tdiv a 10 = a / 10 := Int.tdiv_eq_ediv_of_nonneg h0
      have hw : wrap64 (Int.tdiv a 10) = a / 10 := by rw [hd]; exact w64 (by omega) (by omega)
      have hs : ∀ c : Int, (strOfNums [c]).size = 1 := fun _ => rfl
      obtain ⟨s, e⟩ := ih (a / 10) (strOfNums [(wrap64 (48 + (Int.tmod a 10))) % 256] ++ acc) (by omega) (by omega) (by rw [ByteArray.size_append, hs]; omega)
      refine ⟨s, ev_step (fun k => by simp only [laws_markText.l0, hw]; exact rfl) (ev_pos hp (ev_bind (ev_some _) (ev_pos ?_ e)))⟩
      rw [hs]
      omega
    · exact ⟨_, ev_step (fun k => by simp only [laws_markText.l0]; exact rfl) (ev_neg hp (ev_pos (by omega) (ev_some _)))⟩
theorem mt_ex : ∃ mt : Int → ByteArray, ∀ a, a ≤ 4611686018427387904 → Ev (fun k => laws_markText.f k a) (mt a) := by
  have h : ∀ a : Int, ∃ s : ByteArray, a ≤ 4611686018427387904 → Ev (fun k => laws_markText.f k a) s := by
    intro a
    by_cases hl : a ≤ 4611686018427387904
    · unfold laws_markText.f
      by_cases h0 : a ≤ 0
      · exact ⟨_, fun _ => ev_pos h0 (ev_some _)⟩
      · obtain ⟨s, e⟩ := mt_l0 a.toNat a ⟨#[]⟩ (by omega) (by omega) (by show ((0 : Nat) : Int) + a ≤ _; omega)
        exact ⟨s, fun _ => ev_neg h0 e⟩
    · exact ⟨ByteArray.empty, fun h => absurd h hl⟩
  exact ⟨fun a => Classical.choose (h a), fun a ha => Classical.choose_spec (h a) ha⟩
theorem markStr_l0 (mt : Int → ByteArray) (hmt : ∀ a, a ≤ 4611686018427387904 → Ev (fun k => laws_markText.f k a) (mt a)) (d : Nat) : ∀ (x : List ByteArray) (a i : Int), 0 ≤ i → i ≤ x.length → (x.length : Int) - i = d → x.length ≤ 140737488355328 → 0 ≤ a → a + d ≤ 4611686018427387904 →
    ∃ y, Ev (fun k => laws_markStringS.l0 k x a i) (a + d, y) ∧ y.length = x.length ∧ (∀ j : Nat, (j : Int) < i → y[j]? = x[j]?) ∧ (∀ j : Nat, i ≤ j → j < x.length → rdOf ByteArray.empty y j = mt (a + (j - i))) := by
  induction d with
  | zero =>
    intro x a i h0 h1 hd hx ha hb
    exact ⟨x, ev_step (fun k => by simp only [laws_markStringS.l0]; exact rfl) (ev_neg (by omega) (ev_eq (ev_some _) (by simp))), rfl, fun _ _ => rfl, fun j h h' => by omega⟩
  | succ d ih =>
    intro x a i h0 h1 hd hx ha hb
    have e1 : wrap64 (a + 1) = a + 1 := w64 (by omega) (by omega)
    have e2 : wrap64 (i + 1) = i + 1 := w64 (by omega) (by omega)
    obtain ⟨y, hy, hl, hlo, hhi⟩ := ih (x.set (i : Int).toNat (mt a)) (a + 1) (i + 1) (by omega) (by simp; omega) (by simp; omega) (by simpa using hx) (by omega) (by omega)
    refine ⟨y, ev_step (fun k => by simp only [laws_markStringS.l0, e1, e2]; exact rfl) (ev_pos (by omega) (ev_bind (hmt a (by omega)) (ev_pos h0 (ev_eq hy ?_)))), by simpa using hl, fun j hj => ?_, fun j hj hj' => ?_⟩
    · congr 1
      omega
    · rw [hlo j (by omega), List.getElem?_set_ne (by omega)]
    · by_cases he : (j : Int) = i
      · unfold rdOf
        rw [List.getD_eq_getElem?_getD, hlo _ (by omega), show ((j : Int)).toNat = i.toNat by omega, List.getElem?_set_self (by omega)]
        simp only [Option.getD_some]
        congr 1
        omega
      · rw [hhi j (by omega) (by simpa using hj')]
        congr 1
        omega
theorem heldStr_l0 (mt : Int → ByteArray) (hmt : ∀ a, a ≤ 4611686018427387904 → Ev (fun k => laws_markText.f k a) (mt a)) (d : Nat) : ∀ (y : List ByteArray) (a i : Int), 0 ≤ i → i ≤ y.length → (y.length : Int) - i = d → y.length ≤ 140737488355328 → 0 ≤ a → a + d ≤ 4611686018427387904 →
    (∀ j : Nat, i ≤ j → j < y.length → rdOf ByteArray.empty y j = mt (a + (j - i))) → Ev (fun k => laws_heldStringS.l0 k y a i) (a + d) := by
  induction d with
  | zero =>
    intro y a i h0 h1 hd hx ha hb h
    exact ev_step (fun k => by simp only [laws_heldStringS.l0]; exact rfl) (ev_neg (by omega) (ev_eq (ev_some _) (by simp)))
  | succ d ih =>
    intro y a i h0 h1 hd hx ha hb h
    have e1 : wrap64 (a + 1) = a + 1 := w64 (by omega) (by omega)
    have e2 : wrap64 (i + 1) = i + 1 := w64 (by omega) (by omega)
    have hi := h i.toNat (by omega) (by omega)
    rw [show ((i.toNat : Nat) : Int) = i by omega, show a + (i - i) = a by omega] at hi
    refine ev_step (fun k => by simp only [laws_heldStringS.l0, e1, e2, hi]; exact rfl) (ev_pos (by omega) (ev_pos h0 (ev_bind (hmt a (by omega)) (ev_pos rfl (ev_eq (ih y (a + 1) (i + 1) (by omega) (by omega) (by omega) hx (by omega) (by omega) (fun j hj hj' => ?_)) ?_)))))
    · rw [h j (by omega) hj']
      congr 1
      omega
    · omega
/-- A row of texts is marked, and the marks hold. -/
theorem markStr (x : List ByteArray) (hx : x.length ≤ 140737488355328) : ∃ y, Ev (fun k => laws_markStringS.f k x 1) (1 + (x.length : Int), y) ∧ Ev (fun k => laws_heldStringS.f k y 1) (1 + (x.length : Int)) := by
  obtain ⟨mt, hmt⟩ := mt_ex
  obtain ⟨y, e, hl, _, h⟩ := markStr_l0 mt hmt x.length x 1 0 (by omega) (by omega) (by omega) hx (by omega) (by omega)
  refine ⟨y, e, ?_⟩
  have := heldStr_l0 mt hmt y.length y 1 0 (by omega) (by omega) (by omega) (by omega) (by omega) (by omega) (fun j hj hj' => h j hj (by omega))
  rw [hl] at this
  exact this

def cvSuper (x : S162) : S166 := (⟨x.f0, x.f1⟩ : S166)

theorem toSuperS_l0 (d : Nat) : ∀ (k : Nat) (x : List S162) (y : List S166) (i : Int), 0 ≤ i → i ≤ x.length → y.length = x.length → (x.length : Int) - i = d → d < k → x.length ≤ 140737488355328 → (∀ j : Nat, (j : Int) < i → y[j]? = (x.map cvSuper)[j]?) → laws_toSuperS.l0 k x y i = some (x.map cvSuper) := by
  induction d with
  | zero =>
    intro k x y i h0 h1 hy hd hk hx h
    obtain ⟨k, rfl⟩ : ∃ m, k = m + 1 := ⟨k - 1, by omega⟩
    simp only [laws_toSuperS.l0]; rw [if_neg (by omega)]
    congr 1
    apply List.ext_getElem?
    intro j
    by_cases hj : j < x.length
    · exact h j (by omega)
    · rw [List.getElem?_eq_none (by omega), List.getElem?_eq_none (by simp; omega)]
  | succ d ih =>
    intro k x y i h0 h1 hy hd hk hx h
    obtain ⟨k, rfl⟩ : ∃ m, k = m + 1 := ⟨k - 1, by omega⟩
    simp only [laws_toSuperS.l0]
    rw [if_pos (by omega), if_pos h0]
    simp only [laws_toSuper.f, Option.bind_some]
    rw [if_pos (by omega), w64 (by omega) (by omega)]
    refine ih k x _ (i + 1) (by omega) (by omega) (by simpa using hy) (by omega) (by omega) hx (fun j hj => ?_)
    by_cases he : (j : Int) = i
    · have hj2 : (i : Int).toNat = j := by omega
      rw [hj2, List.getElem?_set_self (by omega), List.getElem?_map, List.getElem?_eq_getElem (by omega)]
      simp only [Option.map_some, rd_T162, hj2, List.getD_eq_getElem?_getD]
      rw [List.getElem?_eq_getElem (by omega)]
      rfl
    · rw [← h j (by omega), List.getElem?_set_ne (by omega)]

theorem toSuperS_all (x : List S162) (hx : x.length ≤ 1048576) (k : Nat) (hk : x.length < k) : laws_toSuperS.f k x = some (x.map cvSuper) := by
  unfold laws_toSuperS.f
  rw [if_pos (by omega), if_pos (by omega)]
  exact toSuperS_l0 x.length k x _ 0 (by omega) (by omega) (by simp) (by omega) (by omega) (by omega) (fun j hj => by omega)

theorem eqSuperS_l0 (d : Nat) : ∀ (k : Nat) (x : List S166) (i : Int), 0 ≤ i → i ≤ x.length → (x.length : Int) - i = d → d < k → x.length ≤ 140737488355328 → laws_eqSuperS.l0 k x x i = some true := by
  induction d with
  | zero =>
    intro k x i h0 h1 hd hk hx
    obtain ⟨k, rfl⟩ : ∃ m, k = m + 1 := ⟨k - 1, by omega⟩
    simp only [laws_eqSuperS.l0]; rw [if_neg (by omega)]
  | succ d ih =>
    intro k x i h0 h1 hd hk hx
    obtain ⟨k, rfl⟩ : ∃ m, k = m + 1 := ⟨k - 1, by omega⟩
    simp only [laws_eqSuperS.l0]
    rw [if_pos (by omega), if_pos h0, if_pos (by omega)]
    simp only [laws_eqSuper.f, Option.bind_some, if_true]
    rw [w64 (by omega) (by omega)]
    exact ih k x (i + 1) (by omega) (by omega) (by omega) (by omega) hx

theorem eqSuperS_self (x : List S166) (hx : x.length ≤ 140737488355328) (k : Nat) (hk : x.length < k) : laws_eqSuperS.f k x x = some true := by
  unfold laws_eqSuperS.f
  rw [if_pos rfl]
  exact eqSuperS_l0 x.length k x 0 (by omega) (by omega) (by omega) (by omega) hx

/-- The element that is marked with so much. -/
def markSuper (m : Int) : S166 := (⟨m, m + 1⟩ : S166)

theorem rd_setSuper (x : List S166) (i : Int) (h0 : 0 ≤ i) (h1 : i < x.length) (e : S166) : rd_T166 (x.set (i : Int).toNat e) i = e := by
  unfold rd_T166
  rw [List.getD_eq_getElem?_getD, List.getElem?_set_self (by omega)]
  rfl

theorem markSuperS_l0 (d : Nat) : ∀ (k : Nat) (x : List S166) (a i : Int), 0 ≤ i → i ≤ x.length → (x.length : Int) - i = d → d < k → x.length ≤ 140737488355328 → 0 ≤ a → a + 2 * d ≤ 9223372036854775800 →
    ∃ y, laws_markSuperS.l0 k x a i = some (a + 2 * d, y) ∧ y.length = x.length ∧ (∀ j : Nat, (j : Int) < i → y[j]? = x[j]?) ∧ (∀ j : Nat, i ≤ j → j < x.length → rd_T166 y j = markSuper (a + 2 * (j - i))) := by
  induction d with
  | zero =>
    intro k x a i h0 h1 hd hk hx ha hb
    obtain ⟨k, rfl⟩ : ∃ m, k = m + 1 := ⟨k - 1, by omega⟩
    refine ⟨x, ?_, rfl, fun _ _ => rfl, fun j h h' => by omega⟩
    simp only [laws_markSuperS.l0]; rw [if_neg (by omega)]; simp
  | succ d ih =>
    intro k x a i h0 h1 hd hk hx ha hb
    obtain ⟨k, rfl⟩ : ∃ m, k = m + 1 := ⟨k - 1, by omega⟩
    have hs := rd_setSuper x i h0 (by omega)
    have e1 : wrap64 (a + 1) = a + 1 := w64 (by omega) (by omega)
    have e2 : wrap64 (a + 1 + 1) = a + 1 + 1 := w64 (by omega) (by omega)
    obtain ⟨y, hy, hl, hlo, hhi⟩ := ih k (x.set (i : Int).toNat (markSuper a)) (a + 2) (i + 1) (by omega) (by simp; omega) (by simp; omega) (by omega) (by simpa using hx) (by omega) (by omega)
    refine ⟨y, ?_, by simpa using hl, fun j hj => ?_, fun j hj hj' => ?_⟩
    · simp only [laws_markSuperS.l0]
      rw [if_pos (by omega), if_pos h0]
      simp only [Option.bind_some, hs, List.set_set, e1, e2]
      rw [w64 (x := i + 1) (by omega) (by omega)]
      have hm : markSuper a = (⟨a, a + 1⟩ : S166) := by unfold markSuper; rfl
      have hz : a + 1 + 1 = a + 2 := by omega
      rw [hz]
      simp only [hm] at hy
      refine Eq.trans ?_ (hy.trans ?_)
      · first | rfl | (congr 2; simp; omega) | (simp only [Int.add_assoc]; rfl)
      · congr 2
        omega
    · rw [hlo j (by omega), List.getElem?_set_ne (by omega)]
    · by_cases he : (j : Int) = i
      · unfold rd_T166
        rw [List.getD_eq_getElem?_getD, hlo _ (by omega), show ((j : Int)).toNat = i.toNat by omega, List.getElem?_set_self (by omega)]
        simp only [Option.getD_some]
        congr 1
        omega
      · rw [hhi j (by omega) (by simpa using hj')]
        congr 1
        omega

theorem markSuperS_only (x : List S166) (hx : x.length ≤ 140737488355328) (a : Int) (ha : 0 ≤ a) (hb : a ≤ 4611686018427387904) : ∃ y : List S166, ∀ k, x.length < k → laws_markSuperS.f k x a = some (a + 2 * (x.length : Int), y) := by
  obtain ⟨y, hy, hl, _, hhi⟩ := markSuperS_l0 x.length (x.length + 1) x a 0 (by omega) (by omega) (by omega) (by omega) hx (by omega) (by omega)
  refine ⟨y, fun k hk => ?_⟩
  unfold laws_markSuperS.f
  exact at_rounds (g := fun k => laws_markSuperS.l0 k x a 0) (fun k => laws_markSuperS.mono_l k _ _ _) (by omega) hy

theorem heldSuperS_l0 (d : Nat) : ∀ (k : Nat) (y : List S166) (a i : Int), 0 ≤ i → i ≤ y.length → (y.length : Int) - i = d → d < k → y.length ≤ 140737488355328 → 0 ≤ a → a + 2 * d ≤ 9223372036854775800 →
    (∀ j : Nat, i ≤ j → j < y.length → rd_T166 y j = markSuper (a + 2 * (j - i))) → laws_heldSuperS.l0 k y a i = some (a + 2 * d) := by
  induction d with
  | zero =>
    intro k y a i h0 h1 hd hk hx ha hb h
    obtain ⟨k, rfl⟩ : ∃ m, k = m + 1 := ⟨k - 1, by omega⟩
    simp only [laws_heldSuperS.l0]; rw [if_neg (by omega)]; simp
  | succ d ih =>
    intro k y a i h0 h1 hd hk hx ha hb h
    obtain ⟨k, rfl⟩ : ∃ m, k = m + 1 := ⟨k - 1, by omega⟩
    have e1 : wrap64 (a + 1) = a + 1 := w64 (by omega) (by omega)
    have e2 : wrap64 (a + 1 + 1) = a + 1 + 1 := w64 (by omega) (by omega)
    have hi := h i.toNat (by omega) (by omega)
    rw [show ((i.toNat : Nat) : Int) = i by omega, show a + 2 * (i - i) = a by omega] at hi
    have hm : markSuper a = (⟨a, a + 1⟩ : S166) := by unfold markSuper; rfl
    rw [hm] at hi
    simp only [laws_heldSuperS.l0]
    rw [if_pos (by omega), if_pos h0]
    simp only [hi, e1, e2, if_true]
    have hz : a + 1 + 1 = a + 2 := by omega
    rw [w64 (x := i + 1) (by omega) (by omega), hz]
    rw [ih k y (a + 2) (i + 1) (by omega) (by omega) (by omega) (by omega) hx (by omega) (by omega) (fun j hj hj' => by rw [h j (by omega) hj']; congr 1; omega)]
    congr 1
    omega

/-- A row is marked, and the marks hold. -/
theorem markSuperS_all (x : List S166) (hx : x.length ≤ 140737488355328) (a : Int) (ha : 0 ≤ a) (hb : a ≤ 4611686018427387904) : ∃ y : List S166, (∀ k, x.length < k → laws_markSuperS.f k x a = some (a + 2 * (x.length : Int), y)) ∧ (∀ k, x.length < k → laws_heldSuperS.f k y a = some (a + 2 * (x.length : Int))) := by
  obtain ⟨y, hy, hl, _, hhi⟩ := markSuperS_l0 x.length (x.length + 1) x a 0 (by omega) (by omega) (by omega) (by omega) hx (by omega) (by omega)
  refine ⟨y, fun k hk => ?_, fun k hk => ?_⟩
  · unfold laws_markSuperS.f
    exact at_rounds (g := fun k => laws_markSuperS.l0 k x a 0) (fun k => laws_markSuperS.mono_l k _ _ _) (by omega) hy
  · unfold laws_heldSuperS.f
    rw [heldSuperS_l0 x.length k y a 0 (by omega) (by omega) (by omega) (by omega) (by omega) (by omega) (by omega) (fun j hj hj' => by rw [hhi j hj (by omega)])]

def cvWrite (x : S164) : S168 := (⟨x.f0, x.f1, (⟨x.f2.f0, x.f2.f1⟩ : S166)⟩ : S168)

theorem toWriteS_l0 (d : Nat) : ∀ (k : Nat) (x : List S164) (y : List S168) (i : Int), 0 ≤ i → i ≤ x.length → y.length = x.length → (x.length : Int) - i = d → d < k → x.length ≤ 140737488355328 → (∀ j : Nat, (j : Int) < i → y[j]? = (x.map cvWrite)[j]?) → laws_toWriteS.l0 k x y i = some (x.map cvWrite) := by
  induction d with
  | zero =>
    intro k x y i h0 h1 hy hd hk hx h
    obtain ⟨k, rfl⟩ : ∃ m, k = m + 1 := ⟨k - 1, by omega⟩
    simp only [laws_toWriteS.l0]; rw [if_neg (by omega)]
    congr 1
    apply List.ext_getElem?
    intro j
    by_cases hj : j < x.length
    · exact h j (by omega)
    · rw [List.getElem?_eq_none (by omega), List.getElem?_eq_none (by simp; omega)]
  | succ d ih =>
    intro k x y i h0 h1 hy hd hk hx h
    obtain ⟨k, rfl⟩ : ∃ m, k = m + 1 := ⟨k - 1, by omega⟩
    simp only [laws_toWriteS.l0]
    rw [if_pos (by omega), if_pos h0]
    simp only [laws_toWrite.f, laws_toSuper.f, Option.bind_some]
    rw [if_pos (by omega), w64 (by omega) (by omega)]
    refine ih k x _ (i + 1) (by omega) (by omega) (by simpa using hy) (by omega) (by omega) hx (fun j hj => ?_)
    by_cases he : (j : Int) = i
    · have hj2 : (i : Int).toNat = j := by omega
      rw [hj2, List.getElem?_set_self (by omega), List.getElem?_map, List.getElem?_eq_getElem (by omega)]
      simp only [Option.map_some, rd_T164, hj2, List.getD_eq_getElem?_getD]
      rw [List.getElem?_eq_getElem (by omega)]
      rfl
    · rw [← h j (by omega), List.getElem?_set_ne (by omega)]

theorem toWriteS_all (x : List S164) (hx : x.length ≤ 1048576) (k : Nat) (hk : x.length < k) : laws_toWriteS.f k x = some (x.map cvWrite) := by
  unfold laws_toWriteS.f
  rw [if_pos (by omega), if_pos (by omega)]
  exact toWriteS_l0 x.length k x _ 0 (by omega) (by omega) (by simp) (by omega) (by omega) (by omega) (fun j hj => by omega)

theorem eqWriteS_l0 (d : Nat) : ∀ (k : Nat) (x : List S168) (i : Int), 0 ≤ i → i ≤ x.length → (x.length : Int) - i = d → d < k → x.length ≤ 140737488355328 → laws_eqWriteS.l0 k x x i = some true := by
  induction d with
  | zero =>
    intro k x i h0 h1 hd hk hx
    obtain ⟨k, rfl⟩ : ∃ m, k = m + 1 := ⟨k - 1, by omega⟩
    simp only [laws_eqWriteS.l0]; rw [if_neg (by omega)]
  | succ d ih =>
    intro k x i h0 h1 hd hk hx
    obtain ⟨k, rfl⟩ : ∃ m, k = m + 1 := ⟨k - 1, by omega⟩
    simp only [laws_eqWriteS.l0]
    rw [if_pos (by omega), if_pos h0, if_pos (by omega)]
    simp only [laws_eqWrite.f, laws_eqSuper.f, Option.bind_some, if_true]
    rw [w64 (by omega) (by omega)]
    exact ih k x (i + 1) (by omega) (by omega) (by omega) (by omega) hx

theorem eqWriteS_self (x : List S168) (hx : x.length ≤ 140737488355328) (k : Nat) (hk : x.length < k) : laws_eqWriteS.f k x x = some true := by
  unfold laws_eqWriteS.f
  rw [if_pos rfl]
  exact eqWriteS_l0 x.length k x 0 (by omega) (by omega) (by omega) (by omega) hx

/-- A disk, and what is written to it. -/
def wrD (d : List ByteArray × List S166) (w : S168) : List ByteArray × List S166 :=
  if 0 ≤ w.f0 ∧ w.f0 < d.1.length then (d.1.set w.f0.toNat w.f1, d.2) else if (w.f0 = -1 ∨ w.f0 = -2) ∧ -1 - w.f0 < d.2.length then (d.1, d.2.set (-1 - w.f0).toNat w.f2) else d
def doAll (d : List ByteArray × List S166) : List S168 → List ByteArray × List S166
  | [] => d
  | w :: l => doAll (wrD d w) l
theorem wrD_len (P : List ByteArray) (S : List S166) (w : S168) : (wrD (P, S) w).1.length = P.length ∧ (wrD (P, S) w).2.length = S.length := by
  unfold wrD
  split
  · exact ⟨by simp, rfl⟩
  · split
    · exact ⟨rfl, by simp⟩
    · exact ⟨rfl, rfl⟩
theorem doAll_len (l : List S168) : ∀ (P : List ByteArray) (S : List S166), (doAll (P, S) l).1.length = P.length ∧ (doAll (P, S) l).2.length = S.length := by
  induction l with
  | nil => intro P S; exact ⟨rfl, rfl⟩
  | cons w l ih =>
    intro P S
    obtain ⟨h1, h2⟩ := wrD_len P S w
    have h := ih (wrD (P, S) w).1 (wrD (P, S) w).2
    rw [h1, h2] at h
    exact h
theorem impl_write (P : List ByteArray) (S : List S166) (w : S168) (hP : P.length ≤ 8796093022208) : impl_Disk_write.f P S w.f0 w.f1 w.f2.f0 w.f2.f1 = some (wrD (P, S) w) := by
  unfold impl_Disk_write.f
  rw [impl_in, w64 (by omega) (by omega)]
  simp only [Option.bind_some]
  unfold wrD inR
  by_cases h1 : 0 ≤ w.f0 ∧ w.f0 < P.length
  · rw [if_pos (show (decide (0 ≤ w.f0) && decide (w.f0 ≤ (P.length : Int) - 1)) = true by simp; omega), if_pos h1.1, if_pos h1.2, if_pos h1]
  · rw [if_neg (show ¬ (decide (0 ≤ w.f0) && decide (w.f0 ≤ (P.length : Int) - 1)) = true by simp; omega), if_neg h1]
    by_cases h2 : w.f0 = -1
    · have e : wrap64 ((-1) - w.f0) = -1 - w.f0 := w64 (by omega) (by omega)
      rw [if_pos h2, e]
      by_cases h3 : -1 - w.f0 < (S.length : Int)
      · rw [if_pos h3, if_pos (by omega), if_pos ⟨.inl h2, h3⟩]
      · rw [if_neg h3, if_neg (fun h => h3 h.2)]
    · rw [if_neg h2]
      by_cases h4 : w.f0 = -2
      · have e : wrap64 ((-1) - w.f0) = -1 - w.f0 := w64 (by omega) (by omega)
        rw [if_pos h4, e]
        by_cases h3 : -1 - w.f0 < (S.length : Int)
        · rw [if_pos h3, if_pos (by omega), if_pos ⟨.inr h4, h3⟩]
        · rw [if_neg h3, if_neg (fun h => h3 h.2)]
      · rw [if_neg h4, if_neg (fun h => by rcases h.1 with h | h <;> contradiction)]
theorem spec_do_l0 (l : List S168) (hl : l.length ≤ 140737488355328) (d : Nat) : ∀ (i : Int) (P : List ByteArray) (S : List S166), 0 ≤ i → i ≤ l.length → (l.length : Int) - i = d → P.length ≤ 8796093022208 → S.length ≤ 8796093022208 → Ev (fun k => spec_Do.l0 k l i P S) (doAll (P, S) (l.drop i.toNat)) := by
  induction d with
  | zero =>
    intro i P S h0 h1 hd hP hS
    rw [List.drop_of_length_le (by omega)]
    exact ev_step (fun k => by simp only [spec_Do.l0]; exact rfl) (ev_neg (by omega) (ev_some _))
  | succ d ih =>
    intro i P S h0 h1 hd hP hS
    have e2 : wrap64 (i + 1) = i + 1 := w64 (by omega) (by omega)
    have e3 : wrap64 ((P.length : Int) - 1) = (P.length : Int) - 1 := w64 (by omega) (by omega)
    have hr := ih (i + 1) (wrD (P, S) (rd_T168 l i)).1 (wrD (P, S) (rd_T168 l i)).2 (by omega) (by omega) (by omega) (by rw [(wrD_len P S _).1]; exact hP) (by rw [(wrD_len P S _).2]; exact hS)
    rw [drop_Write l i h0 (by omega)]
    refine ev_step (fun k => by simp only [spec_Do.l0, e2, e3]; exact rfl) (ev_pos (by omega) (ev_pos h0 ?_))
    show Ev _ (doAll (wrD (P, S) (rd_T168 l i)) (l.drop (i + 1).toNat))
    generalize rd_T168 l i = w at *
    refine ev_bind (ev_all (fun _ => spec_in _ _ _)) ?_
    unfold wrD at hr ⊢
    unfold inR
    by_cases h1 : 0 ≤ w.f0 ∧ w.f0 < P.length
    · simp only [if_pos h1] at hr ⊢
      exact ev_pos (by simp; omega) (ev_pos h1.1 (ev_pos h1.2 (ev_bind (ev_some _) (ev_neg (by omega) (ev_neg (by omega) hr)))))
    · simp only [if_neg h1] at hr ⊢
      refine ev_neg (by simp; omega) ?_
      by_cases h2 : w.f0 = -1
      · have e : wrap64 ((-1) - w.f0) = -1 - w.f0 := w64 (by omega) (by omega)
        simp only [e]
        refine ev_pos h2 ?_
        by_cases h3 : -1 - w.f0 < (S.length : Int)
        · have hc : (w.f0 = -1 ∨ w.f0 = -2) ∧ -1 - w.f0 < (S.length : Int) := ⟨.inl h2, h3⟩
          simp only [if_pos hc] at hr ⊢
          exact ev_pos h3 (ev_pos (by omega) hr)
        · have hc : ¬ ((w.f0 = -1 ∨ w.f0 = -2) ∧ -1 - w.f0 < (S.length : Int)) := fun h => h3 h.2
          simp only [if_neg hc] at hr ⊢
          exact ev_neg h3 hr
      · refine ev_neg h2 ?_
        by_cases h4 : w.f0 = -2
        · have e : wrap64 ((-1) - w.f0) = -1 - w.f0 := w64 (by omega) (by omega)
          simp only [e]
          refine ev_pos h4 ?_
          by_cases h3 : -1 - w.f0 < (S.length : Int)
          · have hc : (w.f0 = -1 ∨ w.f0 = -2) ∧ -1 - w.f0 < (S.length : Int) := ⟨.inr h4, h3⟩
            simp only [if_pos hc] at hr ⊢
            exact ev_pos h3 (ev_pos (by omega) hr)
          · have hc : ¬ ((w.f0 = -1 ∨ w.f0 = -2) ∧ -1 - w.f0 < (S.length : Int)) := fun h => h3 h.2
            simp only [if_neg hc] at hr ⊢
            exact ev_neg h3 hr
        · have hc : ¬ ((w.f0 = -1 ∨ w.f0 = -2) ∧ -1 - w.f0 < (S.length : Int)) := fun h => by rcases h.1 with h | h <;> contradiction
          simp only [if_neg hc] at hr ⊢
          exact ev_neg h4 hr
theorem spec_do (P : List ByteArray) (S : List S166) (l : List S168) (hl : l.length ≤ 140737488355328) (hP : P.length < 8796093022208) (hS : S.length < 8796093022208) : Ev (fun k => spec_Do.f k P S l) (doAll (P, S) l) := by
  unfold spec_Do.f spec_l6Copy.f
  refine ev_bind (f := fun _ => _) (a := (P, S)) (ev_all (fun _ => ?_)) ?_
  · simp only [Option.bind_some, List.length_nil, Nat.zero_add, if_pos hP, if_pos hS, List.nil_append]
  · exact spec_do_l0 l hl l.length 0 P S (by omega) (by omega) (by omega) (by omega) (by omega)
theorem copy_disk (P : List ByteArray) (S : List S166) (hP : P.length < 8796093022208) (hS : S.length < 8796093022208) : impl_copyDisk.f P S = some (P, S) := by
  unfold impl_copyDisk.f slices_Clone_string.f slices_Clone_Super.f
  rw [if_pos hP, if_pos hS]
  rfl
/-- A disk's weight, copies, marks. -/
theorem szDisk (P : List ByteArray) (S : List S162) (hP : P.length ≤ 8796093022208) (hz : ∀ x ∈ P, x.size ≤ 140737488351232) (hS : S.length ≤ 8796093022208) : ∃ r, Ev (fun k => laws_szDisk.f k P S 1048576) r ∧ r ≤ 1048576 ∧ (0 ≤ r → P.length ≤ 1048576 ∧ S.length ≤ 1048576) := by
  unfold laws_szDisk.f laws_szSuperS.f
  obtain ⟨r1, e1, l1, h1⟩ := szStr P hP hz 1048576 (by omega) (by omega)
  by_cases c1 : r1 < 0
  · exact ⟨-1, ev_bind e1 (ev_pos c1 (ev_some _)), by omega, by omega⟩
  · have e2 : wrap64 (r1 - (S.length : Int)) = r1 - (S.length : Int) := w64 (by omega) (by omega)
    by_cases c2 : r1 - (S.length : Int) < 0
    · refine ⟨-1, ev_bind e1 (ev_neg c1 (ev_bind (f := fun _ => _) (a := -1) (ev_all (fun _ => ?_)) (ev_pos (by omega) (ev_some _)))), by omega, by omega⟩
      rw [e2, if_pos c2]
    · refine ⟨r1 - (S.length : Int), ev_bind e1 (ev_neg c1 (ev_bind (f := fun _ => _) (a := r1 - (S.length : Int)) (ev_all (fun _ => ?_)) (ev_neg c2 (ev_some _)))), by omega, fun h => ⟨h1 (by omega), by omega⟩⟩
      rw [e2, if_neg c2]
theorem szWrite_row (l : List S164) (hl : l.length ≤ 8796093022208) (hz : ∀ x ∈ l, x.f1.size ≤ 140737488351232) (d : Nat) : ∀ (i b : Int), 0 ≤ i → i ≤ l.length → (l.length : Int) - i = d → 0 ≤ b → b ≤ 1048576 → ∃ r, Ev (fun k => laws_szWriteS.l0 k l b i) r ∧ r ≤ b := by
  induction d with
  | zero =>
    intro i b h0 hi hd hb hb2
    exact ⟨b, ev_step (fun k => by simp only [laws_szWriteS.l0]; exact rfl) (ev_neg (by omega) (ev_some b)), by omega⟩
  | succ d ih =>
    intro i b h0 hi hd hb hb2
    have hs : (rd_T164 l i).f1.size ≤ 140737488351232 := hz _ (by
      unfold rd_T164
      rw [List.getD_eq_getElem?_getD, List.getElem?_eq_getElem (by omega)]
      exact List.getElem_mem _)
    have e1 : wrap64 (b - ((rd_T164 l i).f1.size : Int)) = b - ((rd_T164 l i).f1.size : Int) := w64 (by omega) (by omega)
    have e2 : wrap64 (i + 1) = i + 1 := w64 (by omega) (by omega)
    by_cases hr : b - ((rd_T164 l i).f1.size : Int) < 0
    · exact ⟨-1, ev_step (fun k => by simp only [laws_szWriteS.l0, laws_szWrite.f, e1, e2, if_pos hr, Option.bind_some]; exact rfl) (ev_pos (by omega) (ev_pos h0 (ev_pos (by omega) (ev_some _)))), by omega⟩
    · obtain ⟨r, e, l1⟩ := ih (i + 1) (b - ((rd_T164 l i).f1.size : Int)) (by omega) (by omega) (by omega) (by omega) (by omega)
      exact ⟨r, ev_step (fun k => by simp only [laws_szWriteS.l0, laws_szWrite.f, e1, e2, if_neg hr, Option.bind_some]; exact rfl) (ev_pos (by omega) (ev_pos h0 e)), by omega⟩
theorem szWrites (l : List S164) (hl : l.length ≤ 8796093022208) (hz : ∀ x ∈ l, x.f1.size ≤ 140737488351232) (b : Int) (hb : 0 ≤ b) (hb2 : b ≤ 1048576) : ∃ r, Ev (fun k => laws_szWriteS.f k l b) r ∧ r ≤ b ∧ (0 ≤ r → l.length ≤ 1048576) := by
  have e1 : wrap64 (b - (l.length : Int)) = b - (l.length : Int) := w64 (by omega) (by omega)
  unfold laws_szWriteS.f
  rw [e1]
  by_cases hr : b - (l.length : Int) < 0
  · exact ⟨-1, ev_pos hr (ev_some _), by omega, by omega⟩
  · obtain ⟨r, e, h⟩ := szWrite_row l hl hz l.length 0 (b - l.length) (by omega) (by omega) (by omega) (by omega) (by omega)
    exact ⟨r, ev_neg hr e, by omega, by omega⟩
theorem toDisk (P : List ByteArray) (S : List S162) (hP : P.length ≤ 1048576) (hS : S.length ≤ 1048576) : Ev (fun k => laws_toDisk.f k P S) (P, S.map cvSuper) := by
  unfold laws_toDisk.f
  exact ev_bind (toStr P hP) (ev_bind (ev_of S.length (fun k hk => toSuperS_all S hS k hk)) (ev_some _))
theorem eqDisk (P : List ByteArray) (S : List S166) (hP : P.length ≤ 140737488355328) (hS : S.length ≤ 140737488355328) : Ev (fun k => laws_eqDisk.f k P S P S) true := by
  unfold laws_eqDisk.f
  exact ev_bind (eqStr P hP) (ev_pos rfl (ev_bind (ev_of S.length (fun k hk => eqSuperS_self S hS k hk)) (ev_pos rfl (ev_some _))))
theorem markDisk (P : List ByteArray) (S : List S166) (hP : P.length ≤ 1048576) (hS : S.length ≤ 1048576) : ∃ m y z, Ev (fun k => laws_markDisk.f k P S 1) (m, y, z) ∧ Ev (fun k => laws_heldDisk.f k y z 1) m ∧ 0 ≤ m ∧ m ≤ 4611686018427387 := by
  obtain ⟨y, h1, h2⟩ := markStr P (by omega)
  obtain ⟨z, h3, h4⟩ := markSuperS_all S (by omega) (1 + (P.length : Int)) (by omega) (by omega)
  refine ⟨1 + (P.length : Int) + 2 * (S.length : Int), y, z, ?_, ?_, by omega, by omega⟩
  · unfold laws_markDisk.f
    exact ev_bind h1 (ev_bind (ev_of _ h3) (ev_some _))
  · unfold laws_heldDisk.f
    exact ev_bind h2 (ev_neg (by omega) (ev_bind (ev_of _ h4) (ev_neg (by omega) (ev_some _))))
/-- From some number of rounds on, f tells m and a row. -/
def EvX {α : Type} (f : Nat → Option (Int × α)) (m : Int) : Prop := ∃ y, Ev f (m, y)
theorem x_step {α : Type} {f g : Nat → Option (Int × α)} {m : Int} (e : ∀ k, f (k + 1) = g k) (h : EvX g m) : EvX f m := ⟨h.choose, ev_step e h.choose_spec⟩
theorem x_pos {α : Type} {f g : Nat → Option (Int × α)} {m : Int} {c : Prop} [Decidable c] (hc : c) (h : EvX f m) : EvX (fun k => if c then f k else g k) m := ⟨h.choose, ev_pos hc h.choose_spec⟩
theorem x_bind {α β : Type} {f : Nat → Option β} {g : Nat → β → Option (Int × α)} {a : β} {m : Int} (hf : Ev f a) (h : EvX (fun k => g k a) m) : EvX (fun k => (f k).bind (g k)) m := ⟨h.choose, ev_bind hf h.choose_spec⟩
theorem markWrite_l0 (d : Nat) : ∀ (x : List S168) (a i : Int), 0 ≤ i → i ≤ x.length → (x.length : Int) - i = d → x.length ≤ 140737488355328 → 0 ≤ a → a + 4 * d ≤ 4611686018427387904 → EvX (fun k => laws_markWriteS.l0 k x a i) (a + 4 * d) := by
  obtain ⟨mt, hmt⟩ := mt_ex
  induction d with
  | zero =>
    intro x a i h0 h1 hd hx ha hb
    exact ⟨x, ev_step (fun k => by simp only [laws_markWriteS.l0]; exact rfl) (ev_neg (by omega) (ev_eq (ev_some _) (by simp)))⟩
  | succ d ih =>
    intro x a i h0 h1 hd hx ha hb
    have e1 : wrap64 (a + 1) = a + 1 := w64 (by omega) (by omega)
    have e2 : wrap64 (a + 1 + 1) = a + 1 + 1 := w64 (by omega) (by omega)
    have e3 : wrap64 (a + 1 + 1 + 1) = a + 1 + 1 + 1 := w64 (by omega) (by omega)
    have e4 : wrap64 (a + 1 + 1 + 1 + 1) = a + 4 := (w64 (by omega) (by omega)).trans (by omega)
    have e5 : wrap64 (i + 1) = i + 1 := w64 (by omega) (by omega)
    have hn : ∀ X : List S168, X.length = x.length → EvX (fun k => laws_markWriteS.l0 k X (a + 4) (i + 1)) (a + 4 * (d + 1 : Nat)) := fun X hX => by
      have h := ih X (a + 4) (i + 1) (by omega) (by omega) (by omega) (by omega) (by omega) (by omega)
      rw [show a + 4 + 4 * (d : Int) = a + 4 * (d + 1 : Nat) by omega] at h
      exact h
    refine x_step (fun k => by simp only [laws_markWriteS.l0, e1, e2, e3, e4, e5]; exact rfl) ?_
    refine x_pos (by omega) ?_
    refine x_pos h0 ?_
    refine x_bind (ev_some _) ?_
    refine x_bind (hmt _ (by omega)) ?_
    refine x_bind (ev_some _) ?_
    refine x_bind (ev_some _) ?_
    exact hn _ (by simp only [List.length_set])
theorem markWrite (x : List S168) (hx : x.length ≤ 1048576) (a : Int) (ha : 0 ≤ a) (hb : a ≤ 4611686018427387) : ∃ m y, Ev (fun k => laws_markWriteS.f k x a) (m, y) ∧ 0 ≤ m ∧ m ≤ 4611686018427387904 := by
  obtain ⟨y, h⟩ := markWrite_l0 x.length x a 0 (by omega) (by omega) (by omega) (by omega) ha (by omega)
  exact ⟨_, y, h, by omega, by omega⟩

/-- The writes that are chosen. -/
def pickW : List S168 → List Bool → List S168
  | w :: l, b :: bs => if b = true then w :: pickW l bs else pickW l bs
  | _, _ => []
theorem pickW_nil (l : List S168) : pickW l [] = [] := by cases l <;> rfl
theorem drop_bool (l : List Bool) (i : Int) (h0 : 0 ≤ i) (h1 : i < l.length) : l.drop i.toNat = rdOf false l i :: l.drop (i + 1).toNat := by
  rw [List.drop_eq_getElem_cons (by omega)]
  congr 1
  · unfold rdOf
    rw [List.getD_eq_getElem?_getD, List.getElem?_eq_getElem (by omega)]
    rfl
  · congr 1
    omega
theorem pickW_len (l : List S168) : ∀ b : List Bool, (pickW l b).length ≤ l.length := by
  induction l with
  | nil => intro b; cases b <;> exact Nat.le_refl _
  | cons w l ih =>
    intro b
    cases b with
    | nil => exact Nat.zero_le _
    | cons c b =>
      have h := ih b
      unfold pickW
      split
      · simp only [List.length_cons]; omega
      · simp only [List.length_cons]; omega
theorem spec_some_l0 (l : List S168) (b : List Bool) (P : List ByteArray) (S : List S166) (hl : l.length ≤ 1048576) (hP : P.length < 8796093022208) (hS : S.length < 8796093022208) (d : Nat) : ∀ (i : Int) (acc : List S168), 0 ≤ i → i ≤ l.length → (l.length : Int) - i = d → (acc.length : Int) ≤ i → Ev (fun k => spec_Some.l0 k l b acc i P S) (doAll (P, S) (acc ++ pickW (l.drop i.toNat) (b.drop i.toNat))) := by
  have hend : ∀ (i : Int) (acc : List S168), (acc.length : Int) ≤ i → i ≤ l.length → pickW (l.drop i.toNat) (b.drop i.toNat) = [] → Ev (fun k => (spec_Do.f k P S acc).bind fun bt228 => some (bt228.1, bt228.2)) (doAll (P, S) (acc ++ pickW (l.drop i.toNat) (b.drop i.toNat))) := by
    intro i acc ha hi hn
    rw [hn, List.append_nil]
    exact ev_bind (spec_do P S acc (by omega) hP hS) (ev_some _)
  induction d with
  | zero =>
    intro i acc h0 h1 hd ha
    exact ev_step (fun k => by simp only [spec_Some.l0]; exact rfl) (ev_neg (by omega) (ev_step (fun k => by simp only [spec_Some.j1]; exact rfl) (ev_neg (by decide) (hend i acc ha h1 (by rw [List.drop_of_length_le (by omega)]; cases b.drop i.toNat <;> rfl)))))
  | succ d ih =>
    intro i acc h0 h1 hd ha
    have e2 : wrap64 (i + 1) = i + 1 := w64 (by omega) (by omega)
    refine ev_step (fun k => by simp only [spec_Some.l0]; exact rfl) (ev_pos (by omega) (ev_step (fun k => by simp only [spec_Some.j1, e2]; exact rfl) ?_))
    by_cases hb : i < (b.length : Int)
    · refine ev_pos (by simpa using hb) (ev_pos h0 (ev_pos hb ?_))
      rw [drop_Write l i h0 (by omega), drop_bool b i h0 hb]
      unfold pickW
      by_cases hc : rdOf false b i = true
      · rw [if_pos hc]
        refine ev_pos hc (ev_pos (by omega) (ev_pos (by omega) ?_))
        have h := ih (i + 1) (acc ++ [rd_T168 l i]) (by omega) (by omega) (by omega) (by simp only [List.length_append, List.length_cons, List.length_nil]; omega)
        rw [List.append_assoc] at h
        exact h
      · rw [if_neg hc]
        exact ev_neg hc (ih (i + 1) acc (by omega) (by omega) (by omega) (by omega))
    · exact ev_neg (by simpa using hb) (hend i acc ha h1 (by rw [List.drop_of_length_le (show b.length ≤ i.toNat by omega)]; exact pickW_nil _))
theorem spec_some (P : List ByteArray) (S : List S166) (l : List S168) (b : List Bool) (hl : l.length ≤ 1048576) (hP : P.length < 8796093022208) (hS : S.length < 8796093022208) : Ev (fun k => spec_Some.f k P S l b) (doAll (P, S) (pickW l b)) := by
  have h := spec_some_l0 l b P S hl hP hS l.length 0 [] (by omega) (by omega) (by omega) (by simp)
  exact h
theorem impl_some_l0 (l : List S168) (b : List Bool) (hl : l.length ≤ 1048576) (d : Nat) : ∀ (i : Int) (P : List ByteArray) (S : List S166), 0 ≤ i → i ≤ l.length → (l.length : Int) - i = d → P.length ≤ 8796093022208 → Ev (fun k => impl_Some.l0 k b l (l.length : Int) i P S) (doAll (P, S) (pickW (l.drop i.toNat) (b.drop i.toNat))) := by
  induction d with
  | zero =>
    intro i P S h0 h1 hd hP
    refine ev_step (fun k => by simp only [impl_Some.l0]; exact rfl) (ev_neg (by omega) (ev_eq (ev_some _) ?_))
    rw [List.drop_of_length_le (by omega)]
    cases b.drop i.toNat <;> rfl
  | succ d ih =>
    intro i P S h0 h1 hd hP
    have e2 : wrap64 (i + 1) = i + 1 := w64 (by omega) (by omega)
    refine ev_step (fun k => by simp only [impl_Some.l0, e2]; exact rfl) (ev_pos (by omega) (ev_pos h0 (ev_pos (by omega) ?_)))
    by_cases hb : i < (b.length : Int)
    · refine ev_pos hb ?_
      rw [drop_Write l i h0 (by omega), drop_bool b i h0 hb]
      unfold pickW
      by_cases hc : rdOf false b i = true
      · rw [if_pos hc]
        exact ev_pos hc (ev_bind (ev_all (fun _ => impl_write P S _ hP)) (ih (i + 1) (wrD (P, S) (rd_T168 l i)).1 (wrD (P, S) (rd_T168 l i)).2 (by omega) (by omega) (by omega) (by rw [(wrD_len P S _).1]; exact hP)))
      · rw [if_neg hc]
        exact ev_neg hc (ih (i + 1) P S (by omega) (by omega) (by omega) hP)
    · refine ev_neg hb (ev_eq (ih (i + 1) P S (by omega) (by omega) (by omega) hP) ?_)
      rw [List.drop_of_length_le (show b.length ≤ i.toNat by omega), List.drop_of_length_le (show b.length ≤ (i + 1).toNat by omega), pickW_nil, pickW_nil]
theorem impl_some (P : List ByteArray) (S : List S166) (l : List S168) (b : List Bool) (hl : l.length ≤ 1048576) (hP : P.length < 8796093022208) (hS : S.length < 8796093022208) : Ev (fun k => impl_Some.f k P S l b) (doAll (P, S) (pickW l b)) := by
  unfold impl_Some.f
  exact ev_bind (f := fun _ => impl_copyDisk.f P S) (ev_all (fun _ => copy_disk P S hP hS)) (impl_some_l0 l b hl l.length 0 P S (by omega) (by omega) (by omega) (by omega))
/-- Rows of bools: copies, marks. -/
theorem toBool_l0 (d : Nat) : ∀ (x y : List Bool) (i : Int), 0 ≤ i → i ≤ x.length → y.length = x.length → (x.length : Int) - i = d → x.length ≤ 140737488355328 → (∀ j : Nat, (j : Int) < i → y[j]? = x[j]?) → Ev (fun k => laws_toBoolS.l0 k x y i) x := by
  induction d with
  | zero =>
    intro x y i h0 h1 hy hd hx h
    refine ev_step (fun k => by simp only [laws_toBoolS.l0]; exact rfl) (ev_neg (by omega) (ev_eq (ev_some y) ?_))
    apply List.ext_getElem?
    intro j
    by_cases hj : j < x.length
    · exact h j (by omega)
    · rw [List.getElem?_eq_none (by omega), List.getElem?_eq_none (by omega)]
  | succ d ih =>
    intro x y i h0 h1 hy hd hx h
    have e2 : wrap64 (i + 1) = i + 1 := w64 (by omega) (by omega)
    refine ev_step (fun k => by simp only [laws_toBoolS.l0, e2]; exact rfl) (ev_pos (by omega) (ev_pos h0 (ev_pos (by omega) (ih x _ (i + 1) (by omega) (by omega) (by simpa using hy) (by omega) hx (fun j hj => ?_)))))
    by_cases he : (j : Int) = i
    · have hj2 : (i : Int).toNat = j := by omega
      rw [hj2, List.getElem?_set_self (by omega), List.getElem?_eq_getElem (by omega)]
      unfold rdOf
      rw [hj2, List.getD_eq_getElem?_getD, List.getElem?_eq_getElem (by omega)]
      rfl
    · rw [← h j (by omega), List.getElem?_set_ne (by omega)]
theorem toBool (x : List Bool) (hx : x.length ≤ 1048576) : Ev (fun k => laws_toBoolS.f k x) x := by
  unfold laws_toBoolS.f
  exact ev_pos (by omega) (ev_pos (by omega) (toBool_l0 x.length x _ 0 (by omega) (by omega) (by simp) (by omega) (by omega) (fun j hj => by omega)))
theorem eqBool_l0 (d : Nat) : ∀ (x : List Bool) (i : Int), 0 ≤ i → i ≤ x.length → (x.length : Int) - i = d → x.length ≤ 140737488355328 → Ev (fun k => laws_eqBoolS.l0 k x x i) true := by
  induction d with
  | zero =>
    intro x i h0 h1 hd hx
    exact ev_step (fun k => by simp only [laws_eqBoolS.l0]; exact rfl) (ev_neg (by omega) (ev_some _))
  | succ d ih =>
    intro x i h0 h1 hd hx
    have e2 : wrap64 (i + 1) = i + 1 := w64 (by omega) (by omega)
    exact ev_step (fun k => by simp only [laws_eqBoolS.l0, e2]; exact rfl) (ev_pos (by omega) (ev_pos h0 (ev_pos (by omega) (ev_neg (by simp) (ih x (i + 1) (by omega) (by omega) (by omega) hx)))))
theorem eqBool (x : List Bool) (hx : x.length ≤ 140737488355328) : Ev (fun k => laws_eqBoolS.f k x x) true := by
  unfold laws_eqBoolS.f
  exact ev_pos rfl (eqBool_l0 x.length x 0 (by omega) (by omega) (by omega) hx)
theorem markBool_l0 (d : Nat) : ∀ (x : List Bool) (a i : Int), 0 ≤ i → i ≤ x.length → (x.length : Int) - i = d → x.length ≤ 140737488355328 → 0 ≤ a → a + d ≤ 9223372036854775800 → EvX (fun k => laws_markBoolS.l0 k x a i) (a + d) := by
  induction d with
  | zero =>
    intro x a i h0 h1 hd hx ha hb
    exact ⟨x, ev_step (fun k => by simp only [laws_markBoolS.l0]; exact rfl) (ev_neg (by omega) (ev_eq (ev_some _) (by simp)))⟩
  | succ d ih =>
    intro x a i h0 h1 hd hx ha hb
    have e1 : wrap64 (a + 1) = a + 1 := w64 (by omega) (by omega)
    have e5 : wrap64 (i + 1) = i + 1 := w64 (by omega) (by omega)
    have hn : ∀ X : List Bool, X.length = x.length → EvX (fun k => laws_markBoolS.l0 k X (a + 1) (i + 1)) (a + (d + 1 : Nat)) := fun X hX => by
      have h := ih X (a + 1) (i + 1) (by omega) (by omega) (by omega) (by omega) (by omega) (by omega)
      rw [show a + 1 + (d : Int) = a + (d + 1 : Nat) by omega] at h
      exact h
    exact x_step (fun k => by simp only [laws_markBoolS.l0, e1, e5]; exact rfl) (x_pos (by omega) (x_pos h0 (hn _ (by simp only [List.length_set]))))
theorem markBool (x : List Bool) (hx : x.length ≤ 1048576) (a : Int) (ha : 0 ≤ a) (hb : a ≤ 4611686018427387904) : ∃ m y, Ev (fun k => laws_markBoolS.f k x a) (m, y) ∧ 0 ≤ m := by
  obtain ⟨y, h⟩ := markBool_l0 x.length x a 0 (by omega) (by omega) (by omega) (by omega) ha (by omega)
  exact ⟨_, y, h, by omega⟩

theorem law_of {p : List ByteArray} {s : List S162} {m : List S164} {b : List Bool} (h : Ev (fun k => laws_FnExactSome.f k p s m b) true) : ∃ k, laws_FnExactSome.f k p s m b = some true := by
  obtain ⟨k, hk⟩ := h
  exact ⟨k, hk k (Nat.le_refl _)⟩
theorem FnExactSome : OpnFnExactSome.Pure := by
  intro p s m b ⟨hp, hpz⟩ ⟨hs, _⟩ ⟨hm, hmz⟩ _
  refine law_of ?_
  unfold laws_FnExactSome.f
  by_cases c0 : (b.length : Int) > 1048576
  · exact ev_pos c0 (ev_some _)
  refine ev_neg c0 ?_
  obtain ⟨r1, e1, l1, s1⟩ := szDisk p s (by omega) hpz (by omega)
  by_cases c1 : r1 < 0
  · exact ev_bind e1 (ev_pos c1 (ev_some _))
  obtain ⟨lp, ls⟩ := s1 (by omega)
  obtain ⟨r2, e2, l2, s2⟩ := szWrites m (by omega) (fun x hx => (hmz x hx).2.1) r1 (by omega) l1
  refine ev_bind e1 (ev_neg c1 ?_)
  by_cases c2 : r2 < 0
  · exact ev_bind e2 (ev_pos c2 (ev_some _))
  refine ev_bind e2 (ev_neg c2 ?_)
  have lm := s2 (by omega)
  have hmm : (m.map cvWrite).length = m.length := List.length_map ..
  have hss : (s.map cvSuper).length = s.length := List.length_map ..
  have hsp := spec_some p (s.map cvSuper) (m.map cvWrite) b (by omega) (by omega) (by omega)
  have him := impl_some p (s.map cvSuper) (m.map cvWrite) b (by omega) (by omega) (by omega)
  obtain ⟨len1, len2⟩ := doAll_len (pickW (m.map cvWrite) b) p (s.map cvSuper)
  generalize doAll (p, s.map cvSuper) (pickW (m.map cvWrite) b) = r at *
  obtain ⟨rp, rs⟩ := r
  simp only at len1 len2
  have td := toDisk p s lp ls
  have tw : Ev (fun k => laws_toWriteS.f k m) (m.map cvWrite) := ev_of m.length (fun k hk => toWriteS_all m lm k hk)
  have tb := toBool b (by omega)
  obtain ⟨a1, y1, z1, h1, _, b1, b1'⟩ := markDisk p (s.map cvSuper) (by omega) (by omega)
  obtain ⟨a2, y2, h2, b2, b2'⟩ := markWrite (m.map cvWrite) (by omega) a1 b1 b1'
  obtain ⟨a5, y5, h5, b5⟩ := markBool b (by omega) a2 b2 b2'
  obtain ⟨a3, y3, z3, h3, h4, b3, _⟩ := markDisk rp rs (by omega) (by omega)
  have eqr := eqDisk rp rs (by omega) (by omega)
  have eqd := eqDisk p (s.map cvSuper) (by omega) (by omega)
  have eqw : Ev (fun k => laws_eqWriteS.f k (m.map cvWrite) (m.map cvWrite)) true := ev_of (m.map cvWrite).length (fun k hk => eqWriteS_self (m.map cvWrite) (by omega) k hk)
  have eqb := eqBool b (by omega)
  refine ev_bind td ?_
  refine ev_bind tw ?_
  refine ev_bind tb ?_
  refine ev_bind hsp ?_
  refine ev_bind td ?_
  refine ev_bind tw ?_
  refine ev_bind tb ?_
  refine ev_bind him ?_
  refine ev_bind eqr ?_
  refine ev_pos (by rfl) ?_
  refine ev_bind td ?_
  refine ev_bind eqd ?_
  refine ev_pos (by rfl) ?_
  refine ev_bind tw ?_
  refine ev_bind eqw ?_
  refine ev_pos (by rfl) ?_
  refine ev_bind tb ?_
  refine ev_bind eqb ?_
  refine ev_pos (by rfl) ?_
  refine ev_bind h1 ?_
  refine ev_bind h2 ?_
  refine ev_bind h5 ?_
  refine ev_neg (by simp only; omega) ?_
  refine ev_bind eqr ?_
  refine ev_step (fun k => by simp only [laws_FnExactSome.j0]; exact rfl) ?_
  refine ev_neg (by simp) ?_
  refine ev_bind h3 ?_
  refine ev_bind h4 ?_
  refine ev_neg (by omega) ?_
  refine ev_pos (by rfl) ?_
  refine ev_bind td ?_
  refine ev_bind tw ?_
  refine ev_bind tb ?_
  refine ev_bind him ?_
  refine ev_bind eqr ?_
  refine ev_pos (by rfl) ?_
  refine ev_bind h4 ?_
  refine ev_neg (by omega) ?_
  exact ev_pos (by rfl) (ev_some _)

end Go.Proofs.Ytphlmbhjeoljoaa.Pure
