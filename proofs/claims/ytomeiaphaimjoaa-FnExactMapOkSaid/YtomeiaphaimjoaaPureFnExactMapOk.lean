/- MapOk of the program and of the reference answer the same of every row of pairs, and leave it alone: no conditions. -/
import Derived.Test.YtomeiaphaimjoaaOpnFnExactMapOk
import Derived.Test.YtomeiaphaimjoaaPFnExactMapOkx
namespace Go.Proofs.Ytomeiaphaimjoaa.Pure
open Go.RowKit Go.Proofs.Ytomeiaphaimjoaa.PFnExactMapOk Go.Proofs.YtomeiaphaimjoaaW.PrintWords Go.Proofs.YtomeiaphaimjoaaW.PrintLast Go.Proofs.YtomeiaphaimjoaaW.PrintMore Go.Proofs.Ytomeiaphaimjoaa.OpnFnExactMapOk

theorem w64 {x : Int} (h0 : -9223372036854775808 ≤ x) (h1 : x ≤ 9223372036854775807) : wrap64 x = x := by
  unfold wrap64
  omega

theorem wf_i64 {a : Int} (h : (Lit.int .i64 a).wf = true) : -9223372036854775808 ≤ a ∧ a ≤ 9223372036854775807 := by
  simp [Lit.wf] at h
  have h1 : IntKind.min .i64 = -9223372036854775808 := by decide
  have h2 : IntKind.max .i64 = 9223372036854775807 := by decide
  omega


/-- From lo to hi. -/
def inR (a lo hi : Int) : Bool := decide (lo ≤ a) && decide (a ≤ hi)

theorem spec_in (a lo hi : Int) : spec_l1In.f a lo hi = some (inR a lo hi) := by
  unfold spec_l1In.f inR
  by_cases h : a ≥ lo
  · rw [if_pos h]; simp [h]
  · rw [if_neg h]; simp; omega

theorem spec_value (a : Int) : spec_l1Value.f a = some (inR a (-1000000000) 1000000000) := by
  unfold spec_l1Value.f
  rw [spec_in]; rfl

theorem impl_in (a lo hi : Int) : impl_within.f a lo hi = some (inR a lo hi) := by
  unfold impl_within.f inR
  by_cases h : a ≥ lo
  · rw [if_pos h]; simp [h]
  · rw [if_neg h]; simp; omega

theorem impl_key (a : Int) : impl_isKey.f a = some (inR a 0 999) := by
  unfold impl_isKey.f
  rw [impl_in]; rfl

theorem impl_num (a : Int) : impl_isNum.f a = some (inR a (-1000000000) 1000000000) := by
  unfold impl_isNum.f
  rw [impl_in]; rfl

theorem drop_Pair (l : List S74) (i : Int) (h0 : 0 ≤ i) (h1 : i < l.length) : l.drop i.toNat = rd_T74 l i :: l.drop (i + 1).toNat := by
  rw [List.drop_eq_getElem_cons (by omega)]
  congr 1
  · unfold rd_T74
    rw [List.getD_eq_getElem?_getD, List.getElem?_eq_getElem (by omega)]
    rfl
  · congr 1
    omega

/-- Pairs behind a key: ascending, each right. -/
def okFrom (prev : Int) : List S74 → Bool
  | [] => true
  | p :: r => inR p.f0 0 999 && inR p.f1 (-1000000000) 1000000000 && decide (prev < p.f0) && okFrom p.f0 r
def mapOk (l : List S74) : Bool := okFrom (-1) l

theorem okFrom_low (prev : Int) (hp : prev < 0) (l : List S74) : okFrom prev l = okFrom (-1) l := by
  cases l with
  | nil => rfl
  | cons p r =>
    simp only [okFrom]
    by_cases h : inR p.f0 0 999 = true
    · have : 0 ≤ p.f0 := by simp [inR] at h; omega
      simp [h, show prev < p.f0 by omega, show -1 < p.f0 by omega]
    · simp [h]
/-- The key ahead of place i. -/
def keyAhead (l : List S74) (i : Int) : Int := if i = 0 then -1 else (rd_T74 l (i - 1)).f0

theorem spec_mapok_l0 (l : List S74) (hl : l.length ≤ 140737488355328) (d : Nat) : ∀ (k : Nat) (i : Int), 0 ≤ i → i ≤ l.length → (l.length : Int) - i = d → d < k → spec_MapOk.l0 k l i = some (okFrom (keyAhead l i) (l.drop i.toNat)) := by
  induction d with
  | zero =>
    intro k i h0 h1 hd hk
    obtain ⟨k, rfl⟩ : ∃ m, k = m + 1 := ⟨k - 1, by omega⟩
    simp only [spec_MapOk.l0]; rw [if_neg (by omega), List.drop_of_length_le (by omega)]
    rfl
  | succ d ih =>
    intro k i h0 h1 hd hk
    obtain ⟨k, rfl⟩ : ∃ m, k = m + 1 := ⟨k - 1, by omega⟩
    have hn := ih k (i + 1) (by omega) (by omega) (by omega) (by omega)
    have hk1 : keyAhead l (i + 1) = (rd_T74 l i).f0 := by unfold keyAhead; rw [if_neg (by omega)]; congr 2; omega
    rw [hk1] at hn
    rw [drop_Pair l i h0 (by omega)]
    simp only [spec_MapOk.l0, okFrom]
    rw [if_pos (by omega), if_pos h0]
    skip
    simp only [spec_in, spec_value, Option.bind_some]
    rw [w64 (x := i + 1) (by omega) (by omega), hn]
    by_cases ha : inR (rd_T74 l i).f0 0 999 = true
    · rw [if_pos ha]
      by_cases hb : inR (rd_T74 l i).f1 (-1000000000) 1000000000 = true
      · rw [if_pos hb, ha, hb]
        by_cases hi : i > 0
        · rw [if_pos hi, w64 (x := i - 1) (by omega) (by omega), if_pos (by omega), if_pos (by omega)]
          have hka : keyAhead l i = (rd_T74 l (i - 1)).f0 := by unfold keyAhead; rw [if_neg (by omega)]
          rw [hka]
          by_cases hc : (rd_T74 l (i - 1)).f0 ≥ (rd_T74 l i).f0
          · rw [if_pos hc]; simp; omega
          · rw [if_neg hc]; simp; omega
        · rw [if_neg hi]
          have hka : keyAhead l i = -1 := by unfold keyAhead; rw [if_pos (by omega)]
          rw [hka]
          have : 0 ≤ (rd_T74 l i).f0 := by simp [inR] at ha; omega
          simp; omega
      · rw [if_neg hb]; simp [hb]
    · rw [if_neg ha]; simp [ha]

theorem spec_mapok (l : List S74) (hl : l.length ≤ 140737488355328) (k : Nat) (hk : l.length < k) : spec_MapOk.f k l = some (mapOk l) := by
  unfold spec_MapOk.f
  exact spec_mapok_l0 l hl l.length k 0 (by omega) (by omega) (by omega) (by omega)

theorem impl_mapok_l0 (l : List S74) (hl : l.length ≤ 140737488355328) (d : Nat) : ∀ (k : Nat) (i : Int), 0 ≤ i → i ≤ l.length → (l.length : Int) - i = d → d < k → impl_MapOk.l0 k l l l.length i = some (okFrom (keyAhead l i) (l.drop i.toNat)) := by
  induction d with
  | zero =>
    intro k i h0 h1 hd hk
    obtain ⟨k, rfl⟩ : ∃ m, k = m + 1 := ⟨k - 1, by omega⟩
    simp only [impl_MapOk.l0]; rw [if_neg (by omega), List.drop_of_length_le (by omega)]
    rfl
  | succ d ih =>
    intro k i h0 h1 hd hk
    obtain ⟨k, rfl⟩ : ∃ m, k = m + 1 := ⟨k - 1, by omega⟩
    have hn := ih k (i + 1) (by omega) (by omega) (by omega) (by omega)
    have hk1 : keyAhead l (i + 1) = (rd_T74 l i).f0 := by unfold keyAhead; rw [if_neg (by omega)]; congr 2; omega
    rw [hk1] at hn
    rw [drop_Pair l i h0 (by omega)]
    simp only [impl_MapOk.l0, okFrom]
    rw [if_pos (by omega), if_pos h0]
    rw [if_pos (by omega)]
    simp only [impl_key, impl_num, Option.bind_some]
    rw [w64 (x := i + 1) (by omega) (by omega), hn]
    by_cases ha : inR (rd_T74 l i).f0 0 999 = true
    · rw [if_pos ha]
      by_cases hb : inR (rd_T74 l i).f1 (-1000000000) 1000000000 = true
      · rw [if_pos hb, ha, hb]
        by_cases hi : i > 0
        · rw [if_pos hi, w64 (x := i - 1) (by omega) (by omega), if_pos (by omega), if_pos (by omega)]
          have hka : keyAhead l i = (rd_T74 l (i - 1)).f0 := by unfold keyAhead; rw [if_neg (by omega)]
          rw [hka]
          by_cases hc : (rd_T74 l (i - 1)).f0 ≥ (rd_T74 l i).f0
          · rw [if_pos hc]; simp; omega
          · rw [if_neg hc]; simp; omega
        · rw [if_neg hi]
          have hka : keyAhead l i = -1 := by unfold keyAhead; rw [if_pos (by omega)]
          rw [hka]
          have : 0 ≤ (rd_T74 l i).f0 := by simp [inR] at ha; omega
          simp; omega
      · rw [if_neg hb]; simp [hb]
    · rw [if_neg ha]; simp [ha]

theorem impl_mapok (l : List S74) (hl : l.length ≤ 140737488355328) (k : Nat) (hk : l.length < k) : impl_MapOk.f k l = some (mapOk l) := by
  unfold impl_MapOk.f
  exact impl_mapok_l0 l hl l.length k 0 (by omega) (by omega) (by omega) (by omega)

def cvPair (x : S76) : S74 := (⟨x.f0, x.f1⟩ : S74)

theorem toPairS_l0 (d : Nat) : ∀ (k : Nat) (x : List S76) (y : List S74) (i : Int), 0 ≤ i → i ≤ x.length → y.length = x.length → (x.length : Int) - i = d → d < k → x.length ≤ 140737488355328 → (∀ j : Nat, (j : Int) < i → y[j]? = (x.map cvPair)[j]?) → laws_toPairS.l0 k x y i = some (x.map cvPair) := by
  induction d with
  | zero =>
    intro k x y i h0 h1 hy hd hk hx h
    obtain ⟨k, rfl⟩ : ∃ m, k = m + 1 := ⟨k - 1, by omega⟩
    simp only [laws_toPairS.l0]; rw [if_neg (by omega)]
    congr 1
    apply List.ext_getElem?
    intro j
    by_cases hj : j < x.length
    · exact h j (by omega)
    · rw [List.getElem?_eq_none (by omega), List.getElem?_eq_none (by simp; omega)]
  | succ d ih =>
    intro k x y i h0 h1 hy hd hk hx h
    obtain ⟨k, rfl⟩ : ∃ m, k = m + 1 := ⟨k - 1, by omega⟩
    simp only [laws_toPairS.l0]
    rw [if_pos (by omega), if_pos h0]
    simp only [laws_toPair.f, Option.bind_some]
    rw [if_pos (by omega), w64 (by omega) (by omega)]
    refine ih k x _ (i + 1) (by omega) (by omega) (by simpa using hy) (by omega) (by omega) hx (fun j hj => ?_)
    by_cases he : (j : Int) = i
    · have hj2 : (i : Int).toNat = j := by omega
      rw [hj2, List.getElem?_set_self (by omega), List.getElem?_map, List.getElem?_eq_getElem (by omega)]
      simp only [Option.map_some, rd_T76, hj2, List.getD_eq_getElem?_getD]
      rw [List.getElem?_eq_getElem (by omega)]
      rfl
    · rw [← h j (by omega), List.getElem?_set_ne (by omega)]

theorem toPairS_all (x : List S76) (hx : x.length ≤ 1048576) (k : Nat) (hk : x.length < k) : laws_toPairS.f k x = some (x.map cvPair) := by
  unfold laws_toPairS.f
  rw [if_pos (by omega), if_pos (by omega)]
  exact toPairS_l0 x.length k x _ 0 (by omega) (by omega) (by simp) (by omega) (by omega) (by omega) (fun j hj => by omega)

theorem eqPairS_l0 (d : Nat) : ∀ (k : Nat) (x : List S74) (i : Int), 0 ≤ i → i ≤ x.length → (x.length : Int) - i = d → d < k → x.length ≤ 140737488355328 → laws_eqPairS.l0 k x x i = some true := by
  induction d with
  | zero =>
    intro k x i h0 h1 hd hk hx
    obtain ⟨k, rfl⟩ : ∃ m, k = m + 1 := ⟨k - 1, by omega⟩
    simp only [laws_eqPairS.l0]; rw [if_neg (by omega)]
  | succ d ih =>
    intro k x i h0 h1 hd hk hx
    obtain ⟨k, rfl⟩ : ∃ m, k = m + 1 := ⟨k - 1, by omega⟩
    simp only [laws_eqPairS.l0]
    rw [if_pos (by omega), if_pos h0, if_pos (by omega)]
    simp only [laws_eqPair.f, Option.bind_some, if_true]
    rw [w64 (by omega) (by omega)]
    exact ih k x (i + 1) (by omega) (by omega) (by omega) (by omega) hx

theorem eqPairS_self (x : List S74) (hx : x.length ≤ 140737488355328) (k : Nat) (hk : x.length < k) : laws_eqPairS.f k x x = some true := by
  unfold laws_eqPairS.f
  rw [if_pos rfl]
  exact eqPairS_l0 x.length k x 0 (by omega) (by omega) (by omega) (by omega) hx

theorem FnExactMapOk : OpnFnExactMapOk.Pure := by
  intro l ⟨hl, _⟩
  refine ⟨l.length + 5, ?_⟩
  unfold laws_FnExactMapOk.f laws_szPairS.f
  rw [w64 (by omega) (by omega)]
  by_cases hb : (1048576 : Int) - l.length < 0
  · rw [if_pos hb]; rfl
  · rw [if_neg hb]
    simp only [Option.bind_some]
    rw [if_neg hb, toPairS_all l (by omega) _ (by omega)]
    have hm : (l.map cvPair).length = l.length := List.length_map ..
    simp only [Option.bind_some, spec_mapok (l.map cvPair) (by omega) (l.length + 5) (by omega), impl_mapok (l.map cvPair) (by omega) (l.length + 5) (by omega), eqPairS_self (l.map cvPair) (by omega) (l.length + 5) (by omega)]
    simp

end Go.Proofs.Ytomeiaphaimjoaa.Pure
