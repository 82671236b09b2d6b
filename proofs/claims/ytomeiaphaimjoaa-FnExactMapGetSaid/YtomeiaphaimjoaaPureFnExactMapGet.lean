/- MapGet of the program and of the reference answer the same of every row of pairs and every key, and leave the row alone: no conditions. -/
import Derived.Test.YtomeiaphaimjoaaOpnFnExactMapGet
import Derived.Test.YtomeiaphaimjoaaPFnExactMapGetx
namespace Go.Proofs.Ytomeiaphaimjoaa.Pure
open Go.RowKit Go.Proofs.Ytomeiaphaimjoaa.PFnExactMapGet Go.Proofs.YtomeiaphaimjoaaW.PrintWords Go.Proofs.YtomeiaphaimjoaaW.PrintLast Go.Proofs.YtomeiaphaimjoaaW.PrintMore Go.Proofs.Ytomeiaphaimjoaa.OpnFnExactMapGet

theorem w64 {x : Int} (h0 : -9223372036854775808 ≤ x) (h1 : x ≤ 9223372036854775807) : wrap64 x = x := by
  unfold wrap64
  omega

theorem wf_i64 {a : Int} (h : (Lit.int .i64 a).wf = true) : -9223372036854775808 ≤ a ∧ a ≤ 9223372036854775807 := by
  simp [Lit.wf] at h
  have h1 : IntKind.min .i64 = -9223372036854775808 := by decide
  have h2 : IntKind.max .i64 = 9223372036854775807 := by decide
  omega


theorem drop_Pair (l : List S74) (i : Int) (h0 : 0 ≤ i) (h1 : i < l.length) : l.drop i.toNat = rd_T74 l i :: l.drop (i + 1).toNat := by
  rw [List.drop_eq_getElem_cons (by omega)]
  congr 1
  · unfold rd_T74
    rw [List.getD_eq_getElem?_getD, List.getElem?_eq_getElem (by omega)]
    rfl
  · congr 1
    omega

/-- The place of the first pair of a key, from place i on; -1 without it. -/
def idxFrom (a : Int) : List S74 → Int → Int
  | [], _ => -1
  | p :: r, i => if p.f0 = a then i else idxFrom a r (i + 1)
theorem idxFrom_cases (l : List S74) (a : Int) (d : Nat) : ∀ (i : Int), 0 ≤ i → i ≤ l.length → (l.length : Int) - i = d → idxFrom a (l.drop i.toNat) i = -1 ∨ (i ≤ idxFrom a (l.drop i.toNat) i ∧ idxFrom a (l.drop i.toNat) i < l.length ∧ (rd_T74 l (idxFrom a (l.drop i.toNat) i)).f0 = a) := by
  induction d with
  | zero => intro i h0 h1 hd; rw [List.drop_of_length_le (by omega)]; exact .inl rfl
  | succ d ih =>
    intro i h0 h1 hd
    have h := ih (i + 1) (by omega) (by omega) (by omega)
    rw [drop_Pair l i h0 (by omega)]
    simp only [idxFrom]
    by_cases ha : (rd_T74 l i).f0 = a
    · rw [if_pos ha]; exact .inr ⟨by omega, by omega, ha⟩
    · rw [if_neg ha]
      rcases h with h | ⟨x, y, z⟩
      · exact .inl h
      · exact .inr ⟨by omega, y, z⟩
def pairAt (l : List S74) (a : Int) : Int := idxFrom a l 0

theorem impl_index_l0 (l : List S74) (a : Int) (hl : l.length ≤ 140737488355328) (d : Nat) : ∀ (k : Nat) (i : Int), 0 ≤ i → i ≤ l.length → (l.length : Int) - i = d → d < k → slices_IndexFunc_Pair_73.l0 k l l.length i a = some (idxFrom a (l.drop i.toNat) i) := by
  induction d with
  | zero =>
    intro k i h0 h1 hd hk
    obtain ⟨k, rfl⟩ : ∃ m, k = m + 1 := ⟨k - 1, by omega⟩
    simp only [slices_IndexFunc_Pair_73.l0]; rw [if_neg (by omega), List.drop_of_length_le (by omega)]
    rfl
  | succ d ih =>
    intro k i h0 h1 hd hk
    obtain ⟨k, rfl⟩ : ∃ m, k = m + 1 := ⟨k - 1, by omega⟩
    have hn := ih k (i + 1) (by omega) (by omega) (by omega) (by omega)
    rw [drop_Pair l i h0 (by omega)]
    simp only [slices_IndexFunc_Pair_73.l0, idxFrom, impl_pairAt_f1.f, Option.bind_some]
    rw [if_pos (by omega), if_pos h0, if_pos (by omega), w64 (x := i + 1) (by omega) (by omega), hn]
    by_cases ha : (rd_T74 l i).f0 = a
    · rw [if_pos (by simpa using ha), if_pos ha]
    · rw [if_neg (by simpa using ha), if_neg ha]

theorem impl_pairat (l : List S74) (a : Int) (hl : l.length ≤ 140737488355328) (k : Nat) (hk : l.length < k) : impl_pairAt.f k l a = some (pairAt l a) := by
  unfold impl_pairAt.f slices_IndexFunc_Pair_73.f
  rw [impl_index_l0 l a hl l.length k 0 (by omega) (by omega) (by omega) (by omega)]
  rfl

/-- What a map tells of a key. -/
def mapGet (l : List S74) (a : Int) : Int × Bool := if pairAt l a < 0 then (0, false) else ((rd_T74 l (pairAt l a)).f1, true)
def getAt (l : List S74) (j : Int) : Int × Bool := if j < 0 then (0, false) else ((rd_T74 l j).f1, true)

theorem spec_mapget_l0 (l : List S74) (a : Int) (hl : l.length ≤ 140737488355328) (d : Nat) : ∀ (k : Nat) (i : Int), 0 ≤ i → i ≤ l.length → (l.length : Int) - i = d → d < k → spec_MapGet.l0 k l a i = some (getAt l (idxFrom a (l.drop i.toNat) i)) := by
  induction d with
  | zero =>
    intro k i h0 h1 hd hk
    obtain ⟨k, rfl⟩ : ∃ m, k = m + 1 := ⟨k - 1, by omega⟩
    simp only [spec_MapGet.l0]; rw [if_neg (by omega), List.drop_of_length_le (by omega)]
    rfl
  | succ d ih =>
    intro k i h0 h1 hd hk
    obtain ⟨k, rfl⟩ : ∃ m, k = m + 1 := ⟨k - 1, by omega⟩
    have hn := ih k (i + 1) (by omega) (by omega) (by omega) (by omega)
    rw [drop_Pair l i h0 (by omega)]
    simp only [spec_MapGet.l0, idxFrom]
    rw [if_pos (by omega), if_pos h0, w64 (x := i + 1) (by omega) (by omega), hn]
    by_cases ha : (rd_T74 l i).f0 = a
    · rw [if_pos ha, if_pos ha, getAt, if_neg (by omega)]
    · rw [if_neg ha, if_neg ha]

theorem spec_mapget (l : List S74) (a : Int) (hl : l.length ≤ 140737488355328) (k : Nat) (hk : l.length < k) : spec_MapGet.f k l a = some (mapGet l a) := by
  unfold spec_MapGet.f
  rw [spec_mapget_l0 l a hl l.length k 0 (by omega) (by omega) (by omega) (by omega)]
  rfl

theorem impl_mapget (l : List S74) (a : Int) (hl : l.length ≤ 140737488355328) (k : Nat) (hk : l.length < k) : impl_MapGet.f k l a = some (mapGet l a) := by
  unfold impl_MapGet.f mapGet
  rw [impl_pairat l a hl k hk]
  simp only [Option.bind_some]
  have h := idxFrom_cases l a l.length 0 (by omega) (by omega) (by omega)
  rw [show List.drop (0 : Int).toNat l = l from rfl, show idxFrom a l 0 = pairAt l a from rfl] at h
  by_cases hn : pairAt l a < 0
  · rw [if_pos hn, if_pos hn]
  · rw [if_neg hn, if_neg hn, if_pos (by omega), if_pos (by omega)]

def cvPair (x : S76) : S74 := (⟨x.f0, x.f1⟩ : S74)

theorem toPairS_l0 (d : Nat) : ∀ (k : Nat) (x : List S76) (y : List S74) (i : Int), 0 ≤ i → i ≤ x.length → y.length = x.length → (x.length : Int) - i = d → d < k → x.length ≤ 140737488355328 → (∀ j : Nat, (j : Int) < i → y[j]? = (x.map cvPair)[j]?) → laws_toPairS.l0 k x y i = some (x.map cvPair) := by
  induction d with
  | zero =>
    intro k x y i h0 h1 hy hd hk hx h
    obtain ⟨k, rfl⟩ : ∃ m, k = m + 1 := ⟨k - 1, by omega⟩
    simp only [laws_toPairS.l0]; rw [if_neg (by omega)]
    congr 1
    apply List.ext_getElem?
    intro j
    by_cases hj : j < x.length
    · exact h j (by omega)
    · rw [List.getElem?_eq_none (by omega), List.getElem?_eq_none (by simp; omega)]
  | succ d ih =>
    intro k x y i h0 h1 hy hd hk hx h
    obtain ⟨k, rfl⟩ : ∃ m, k = m + 1 := ⟨k - 1, by omega⟩
    simp only [laws_toPairS.l0]
    rw [if_pos (by omega), if_pos h0]
    simp only [laws_toPair.f, Option.bind_some]
    rw [if_pos (by omega), w64 (by omega) (by omega)]
    refine ih k x _ (i + 1) (by omega) (by omega) (by simpa using hy) (by omega) (by omega) hx (fun j hj => ?_)
    by_cases he : (j : Int) = i
    · have hj2 : (i : Int).toNat = j := by omega
      rw [hj2, List.getElem?_set_self (by omega), List.getElem?_map, List.getElem?_eq_getElem (by omega)]
      simp only [Option.map_some, rd_T76, hj2, List.getD_eq_getElem?_getD]
      rw [List.getElem?_eq_getElem (by omega)]
      rfl
    · rw [← h j (by omega), List.getElem?_set_ne (by omega)]

theorem toPairS_all (x : List S76) (hx : x.length ≤ 1048576) (k : Nat) (hk : x.length < k) : laws_toPairS.f k x = some (x.map cvPair) := by
  unfold laws_toPairS.f
  rw [if_pos (by omega), if_pos (by omega)]
  exact toPairS_l0 x.length k x _ 0 (by omega) (by omega) (by simp) (by omega) (by omega) (by omega) (fun j hj => by omega)

theorem eqPairS_l0 (d : Nat) : ∀ (k : Nat) (x : List S74) (i : Int), 0 ≤ i → i ≤ x.length → (x.length : Int) - i = d → d < k → x.length ≤ 140737488355328 → laws_eqPairS.l0 k x x i = some true := by
  induction d with
  | zero =>
    intro k x i h0 h1 hd hk hx
    obtain ⟨k, rfl⟩ : ∃ m, k = m + 1 := ⟨k - 1, by omega⟩
    simp only [laws_eqPairS.l0]; rw [if_neg (by omega)]
  | succ d ih =>
    intro k x i h0 h1 hd hk hx
    obtain ⟨k, rfl⟩ : ∃ m, k = m + 1 := ⟨k - 1, by omega⟩
    simp only [laws_eqPairS.l0]
    rw [if_pos (by omega), if_pos h0, if_pos (by omega)]
    simp only [laws_eqPair.f, Option.bind_some, if_true]
    rw [w64 (by omega) (by omega)]
    exact ih k x (i + 1) (by omega) (by omega) (by omega) (by omega) hx

theorem eqPairS_self (x : List S74) (hx : x.length ≤ 140737488355328) (k : Nat) (hk : x.length < k) : laws_eqPairS.f k x x = some true := by
  unfold laws_eqPairS.f
  rw [if_pos rfl]
  exact eqPairS_l0 x.length k x 0 (by omega) (by omega) (by omega) (by omega) hx

theorem FnExactMapGet : OpnFnExactMapGet.Pure := by
  intro l a ⟨hl, _⟩ _
  refine ⟨l.length + 5, ?_⟩
  unfold laws_FnExactMapGet.f laws_szPairS.f
  rw [w64 (by omega) (by omega)]
  by_cases hb : (1048576 : Int) - l.length < 0
  · rw [if_pos hb]; rfl
  · rw [if_neg hb]
    simp only [Option.bind_some]
    rw [if_neg hb, toPairS_all l (by omega) _ (by omega)]
    have hm : (l.map cvPair).length = l.length := List.length_map ..
    simp only [Option.bind_some, spec_mapget (l.map cvPair) a (by omega) (l.length + 5) (by omega), impl_mapget (l.map cvPair) a (by omega) (l.length + 5) (by omega)]
    simp only [laws_FnExactMapGet.j0]
    rw [toPairS_all l (by omega) _ (by omega)]
    simp [eqPairS_self (l.map cvPair) (by omega) (l.length + 4) (by omega)]

end Go.Proofs.Ytomeiaphaimjoaa.Pure
