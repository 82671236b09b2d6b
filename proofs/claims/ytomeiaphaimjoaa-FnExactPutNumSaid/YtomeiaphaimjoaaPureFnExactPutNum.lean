/- PutNum of the program and of the reference give the same bytes at every number, in memory of their own: no conditions. -/
import Derived.Test.YtomeiaphaimjoaaPFnExactPutNumx
namespace Go.Proofs.Ytomeiaphaimjoaa.Pure
open Go.RowKit Go.Proofs.Ytomeiaphaimjoaa.PFnExactPutNum Go.Proofs.YtomeiaphaimjoaaW.PrintWords Go.Proofs.YtomeiaphaimjoaaW.PrintLast Go.Proofs.YtomeiaphaimjoaaW.PrintMore

theorem w64 {x : Int} (h0 : -9223372036854775808 ≤ x) (h1 : x ≤ 9223372036854775807) : wrap64 x = x := by
  unfold wrap64
  omega

theorem wf_i64 {a : Int} (h : (Lit.int .i64 a).wf = true) : -9223372036854775808 ≤ a ∧ a ≤ 9223372036854775807 := by
  simp [Lit.wf] at h
  have h1 : IntKind.min .i64 = -9223372036854775808 := by decide
  have h2 : IntKind.max .i64 = 9223372036854775807 := by decide
  omega


/-- The bytes of a number that is not below 0, at so many rounds. -/
def numEnc : Nat → Int → List Int
  | 0, n => [n]
  | d + 1, n => if n > 127 then (n % 128 + 128) :: numEnc d (n / 128) else [n]

def zig (x : Int) : Int := if x < 0 then -2 * x - 1 else 2 * x

/-- PutNum, as the document says it. -/
def putNum (x : Int) : List Int := if -2000000000 ≤ x ∧ x ≤ 2000000000 then numEnc 4 (zig x) else []

theorem numEnc_len : ∀ (d : Nat) (n : Int), 0 < (numEnc d n).length ∧ (numEnc d n).length ≤ d + 1 := by
  intro d
  induction d with
  | zero => intro n; simp [numEnc]
  | succ d ih =>
    intro n
    simp only [numEnc]
    split
    · have := ih (n / 128); simp only [List.length_cons]; omega
    · simp

theorem putNum_len (x : Int) : (putNum x).length ≤ 5 := by
  unfold putNum
  split
  · exact (numEnc_len 4 _).2
  · simp

theorem putNum_nil (x : Int) : putNum x = [] ↔ ¬ (-2000000000 ≤ x ∧ x ≤ 2000000000) := by
  unfold putNum
  split
  · rename_i h
    have := (numEnc_len 4 (zig x)).1
    constructor
    · intro h'; rw [h'] at this; simp at this
    · intro h'; exact absurd h h'
  · rename_i h; simp [h]

theorem spec_putnum_l0 : ∀ (d k : Nat) (n : Int) (acc : List Int), 0 ≤ n → n < 128 ^ (d + 1) → d < k → n ≤ 9223372036854775807 → acc.length + d < 140737488355327 → spec_PutNum.l0 k acc n = some (acc ++ numEnc d n) := by
  intro d
  induction d with
  | zero =>
    intro k n acc h0 h1 hk hn hl
    obtain ⟨k, rfl⟩ : ∃ m, k = m + 1 := ⟨k - 1, by omega⟩
    simp only [spec_PutNum.l0, numEnc]; rw [if_neg (by omega), if_pos (by omega), show n % 256 = n by omega]
  | succ d ih =>
    intro k n acc h0 h1 hk hn hl
    obtain ⟨k, rfl⟩ : ∃ m, k = m + 1 := ⟨k - 1, by omega⟩
    simp only [spec_PutNum.l0, numEnc]
    by_cases hb : n > 127
    · rw [if_pos hb, if_pos (by omega : acc.length < 140737488355328), if_pos hb]
      have hd : wrap64 (Int.tdiv n 128) = n / 128 := by
        rw [Int.tdiv_eq_ediv_of_nonneg h0]
        exact w64 (by omega) (by omega)
      have hm : (wrap64 ((Int.tmod n 128) + 128)) % 256 = n % 128 + 128 := by
        rw [Int.tmod_eq_emod_of_nonneg h0, w64 (by omega) (by omega)]
        omega
      rw [hd, hm, ih k (n / 128) (acc ++ [n % 128 + 128]) (by omega) (by
        have : (128 : Int) ^ (d + 1 + 1) = 128 ^ (d + 1) * 128 := Int.pow_succ ..
        omega) (by omega) (by omega) (by simp; omega)]
      simp
    · rw [if_neg hb, if_pos (by omega), if_neg hb, show n % 256 = n by omega]

theorem spec_putnum (a0 : Int) (k : Nat) (hk : 20 < k) : spec_PutNum.f k a0 = some (putNum a0) := by
  unfold spec_PutNum.f putNum zig
  by_cases hin : -2000000000 ≤ a0 ∧ a0 ≤ 2000000000
  · have hsp : spec_l1In.f a0 (-2000000000) 2000000000 = some true := by
      unfold spec_l1In.f; rw [if_pos hin.1]; simp [hin.2]
    simp only [Option.bind_some, hsp, if_true]
    rw [if_pos hin]
    obtain ⟨k, rfl⟩ : ∃ m, k = m + 1 := ⟨k - 1, by omega⟩
    by_cases hneg : a0 < 0
    · rw [if_pos hneg, if_pos hneg, w64 (x := (-2) * a0) (by omega) (by omega), w64 (by omega) (by omega)]
      simp only [spec_PutNum.j0]
      rw [spec_putnum_l0 4 k (-2 * a0 - 1) [] (by omega) (by omega) (by omega) (by omega) (by simp)]
      rfl
    · rw [if_neg hneg, if_neg hneg, w64 (x := 2 * a0) (by omega) (by omega)]
      simp only [spec_PutNum.j0]
      rw [spec_putnum_l0 4 k (2 * a0) [] (by omega) (by omega) (by omega) (by omega) (by simp)]
      rfl
  · have hsp : spec_l1In.f a0 (-2000000000) 2000000000 = some false := by
      unfold spec_l1In.f
      split
      · simp; omega
      · rfl
    simp only [Option.bind_some, hsp]
    rw [if_neg hin]
    rfl

theorem impl_putnum_l0 : ∀ (d k : Nat) (n : Int) (acc : List Int), 0 ≤ n → n < 128 ^ (d + 1) → d < k → n ≤ 9223372036854775807 → acc.length + d < 140737488355327 → impl_PutNum.l0 k n acc = some (acc ++ numEnc d n) := by
  intro d
  induction d with
  | zero =>
    intro k n acc h0 h1 hk hn hl
    obtain ⟨k, rfl⟩ : ∃ m, k = m + 1 := ⟨k - 1, by omega⟩
    simp only [impl_PutNum.l0, numEnc]; rw [if_neg (by omega), if_pos (by omega), show n % 256 = n by omega]
  | succ d ih =>
    intro k n acc h0 h1 hk hn hl
    obtain ⟨k, rfl⟩ : ∃ m, k = m + 1 := ⟨k - 1, by omega⟩
    simp only [impl_PutNum.l0, numEnc]
    by_cases hb : n > 127
    · rw [if_pos hb, if_pos (by omega : acc.length < 140737488355328), if_pos hb]
      have hd : wrap64 (Int.tdiv n 128) = n / 128 := by
        rw [Int.tdiv_eq_ediv_of_nonneg h0]
        exact w64 (by omega) (by omega)
      have hm : (wrap64 ((Int.tmod n 128) + 128)) % 256 = n % 128 + 128 := by
        rw [Int.tmod_eq_emod_of_nonneg h0, w64 (by omega) (by omega)]
        omega
      rw [hd, hm, ih k (n / 128) (acc ++ [n % 128 + 128]) (by omega) (by
        have : (128 : Int) ^ (d + 1 + 1) = 128 ^ (d + 1) * 128 := Int.pow_succ ..
        omega) (by omega) (by omega) (by simp; omega)]
      simp
    · rw [if_neg hb, if_pos (by omega), if_neg hb, show n % 256 = n by omega]

theorem impl_putnum (a0 : Int) (k : Nat) (hk : 20 < k) : impl_PutNum.f k a0 = some (putNum a0) := by
  unfold impl_PutNum.f putNum zig
  by_cases hin : -2000000000 ≤ a0 ∧ a0 ≤ 2000000000
  · have hsp : impl_within.f a0 (-2000000000) 2000000000 = some true := by
      unfold impl_within.f; rw [if_pos hin.1]; simp [hin.2]
    simp only [Option.bind_some, hsp, if_true]
    rw [if_pos hin]
    obtain ⟨k, rfl⟩ : ∃ m, k = m + 1 := ⟨k - 1, by omega⟩
    by_cases hneg : a0 < 0
    · rw [if_pos hneg, if_pos hneg, w64 (x := (-2) * a0) (by omega) (by omega), w64 (by omega) (by omega)]
      simp only [impl_PutNum.j0]
      rw [impl_putnum_l0 4 k (-2 * a0 - 1) [] (by omega) (by omega) (by omega) (by omega) (by simp)]
      rfl
    · rw [if_neg hneg, if_neg hneg, w64 (x := 2 * a0) (by omega) (by omega)]
      simp only [impl_PutNum.j0]
      rw [impl_putnum_l0 4 k (2 * a0) [] (by omega) (by omega) (by omega) (by omega) (by simp)]
      rfl
  · have hsp : impl_within.f a0 (-2000000000) 2000000000 = some false := by
      unfold impl_within.f
      split
      · simp; omega
      · rfl
    simp only [Option.bind_some, hsp]
    rw [if_neg hin]
    rfl

theorem eqB (d : Nat) : ∀ (k : Nat) (x : List Int) (i : Int), 0 ≤ i → i ≤ x.length → (x.length : Int) - i = d → d < k → x.length ≤ 140737488355328 → laws_eqByteS.l0 k x x i = some true := by
  induction d with
  | zero =>
    intro k x i h0 h1 hd hk hx
    obtain ⟨k, rfl⟩ : ∃ m, k = m + 1 := ⟨k - 1, by omega⟩
    simp only [laws_eqByteS.l0]; rw [if_neg (by omega)]
  | succ d ih =>
    intro k x i h0 h1 hd hk hx
    obtain ⟨k, rfl⟩ : ∃ m, k = m + 1 := ⟨k - 1, by omega⟩
    simp only [laws_eqByteS.l0]
    rw [if_pos (by omega), if_pos h0, if_pos (by omega)]
    simp only [if_true]
    rw [w64 (by omega) (by omega)]
    exact ih k x (i + 1) (by omega) (by omega) (by omega) (by omega) hx

theorem eqByteS_self (x : List Int) (hx : x.length ≤ 140737488355328) (k : Nat) (hk : x.length < k) : laws_eqByteS.f k x x = some true := by
  unfold laws_eqByteS.f
  rw [if_pos rfl]
  exact eqB x.length k x 0 (by omega) (by omega) (by omega) (by omega) hx

/-- What is marked, and that it holds. -/
theorem markB (d : Nat) : ∀ (k : Nat) (x : List Int) (a i : Int), 0 ≤ i → i ≤ x.length → (x.length : Int) - i = d → d < k → x.length ≤ 140737488355328 → 0 ≤ a → a + d ≤ 9223372036854775807 →
    ∃ y, laws_markByteS.l0 k x a i = some (a + d, y) ∧ y.length = x.length ∧ (∀ j : Nat, (j : Int) < i → y.getD j 0 = x.getD j 0) ∧ (∀ j : Nat, i ≤ j → j < x.length → y.getD j 0 = (a + (j - i)) % 256) := by
  induction d with
  | zero =>
    intro k x a i h0 h1 hd hk hx ha hb
    obtain ⟨k, rfl⟩ : ∃ m, k = m + 1 := ⟨k - 1, by omega⟩
    refine ⟨x, ?_, rfl, fun _ _ => rfl, fun j h h' => by omega⟩
    simp only [laws_markByteS.l0]; rw [if_neg (by omega)]; simp
  | succ d ih =>
    intro k x a i h0 h1 hd hk hx ha hb
    obtain ⟨k, rfl⟩ : ∃ m, k = m + 1 := ⟨k - 1, by omega⟩
    obtain ⟨y, hy, hl, hlo, hhi⟩ := ih k (x.set (i : Int).toNat ((a) % 256)) (a + 1) (i + 1) (by omega) (by simp; omega) (by simp; omega) (by omega) (by simpa using hx) (by omega) (by omega)
    refine ⟨y, ?_, by simpa using hl, fun j hj => ?_, fun j hj hj' => ?_⟩
    · simp only [laws_markByteS.l0]
      rw [if_pos (by omega), if_pos h0, w64 (x := a + 1) (by omega) (by omega), w64 (x := i + 1) (by omega) (by omega), hy]
      congr 2
      omega
    · rw [hlo j (by omega)]
      simp only [List.getD_eq_getElem?_getD]
      rw [List.getElem?_set_ne (by omega)]
    · by_cases he : (j : Int) = i
      · rw [hlo j (by omega)]
        have hj2 : (i : Int).toNat = j := by omega
        simp only [List.getD_eq_getElem?_getD, hj2]
        rw [List.getElem?_set_self hj']
        simp only [Option.getD_some]
        congr 1
        omega
      · rw [hhi j (by omega) (by simpa using hj')]
        congr 1
        omega

theorem heldB (d : Nat) : ∀ (k : Nat) (y : List Int) (a i : Int), 0 ≤ i → i ≤ y.length → (y.length : Int) - i = d → d < k → y.length ≤ 140737488355328 → 0 ≤ a → a + d ≤ 9223372036854775807 →
    (∀ j : Nat, i ≤ j → j < y.length → y.getD j 0 = (a + (j - i)) % 256) → laws_heldByteS.l0 k y a i = some (a + d) := by
  induction d with
  | zero =>
    intro k y a i h0 h1 hd hk hx ha hb h
    obtain ⟨k, rfl⟩ : ∃ m, k = m + 1 := ⟨k - 1, by omega⟩
    simp only [laws_heldByteS.l0]; rw [if_neg (by omega)]; simp
  | succ d ih =>
    intro k y a i h0 h1 hd hk hx ha hb h
    obtain ⟨k, rfl⟩ : ∃ m, k = m + 1 := ⟨k - 1, by omega⟩
    have hi := h i.toNat (by omega) (by omega)
    have hi2 : rd y i = a % 256 := by
      unfold rd
      rw [hi]
      congr 1
      omega
    simp only [laws_heldByteS.l0]
    rw [if_pos (by omega), if_pos h0, if_pos hi2, w64 (x := a + 1) (by omega) (by omega), w64 (x := i + 1) (by omega) (by omega)]
    rw [ih k y (a + 1) (i + 1) (by omega) (by omega) (by omega) (by omega) hx (by omega) (by omega) (fun j hj hj' => by rw [h j (by omega) hj']; congr 1; omega)]
    congr 1
    omega

/-- A list is marked, and the marks hold. -/
theorem markByteS_all (x : List Int) (hx : x.length ≤ 140737488355328) : ∃ y : List Int, (∀ k, x.length < k → laws_markByteS.f k x 1 = some ((1 + x.length : Int), y)) ∧ (∀ k, x.length < k → laws_heldByteS.f k y 1 = some (1 + x.length : Int)) := by
  obtain ⟨y, hy, hl, _, hhi⟩ := markB x.length (x.length + 1) x 1 0 (by omega) (by omega) (by omega) (by omega) hx (by omega) (by omega)
  refine ⟨y, fun k hk => ?_, fun k hk => ?_⟩
  · unfold laws_markByteS.f
    exact at_rounds (g := fun k => laws_markByteS.l0 k x 1 0) (fun k => laws_markByteS.mono_l k _ _ _) (by omega) hy
  · unfold laws_heldByteS.f
    rw [heldB x.length k y 1 0 (by omega) (by omega) (by omega) (by omega) (by omega) (by omega) (by omega) (fun j hj hj' => by rw [hhi j hj (by omega)])]

theorem FnExactPutNum : laws_FnExactPutNum.Pure := by
  intro a0 hw
  have hl := putNum_len a0
  obtain ⟨y, h2, h3⟩ := markByteS_all (putNum a0) (by omega)
  refine ⟨30, ?_⟩
  unfold laws_FnExactPutNum.f
  rw [spec_putnum a0 30 (by omega), impl_putnum a0 30 (by omega)]
  simp only [Option.bind_some, eqByteS_self (putNum a0) (by omega) 30 (by omega), h2 30 (by omega), h3 30 (by omega), if_true]
  have hn : ¬ (1 + ((putNum a0).length : Int) < 0) := by omega
  simp only [hn, if_false]

end Go.Proofs.Ytomeiaphaimjoaa.Pure
