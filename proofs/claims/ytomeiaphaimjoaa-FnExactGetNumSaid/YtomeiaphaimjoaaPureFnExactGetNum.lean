/- GetNum of the program and of the reference answer the same at all bytes and places, and leave the bytes alone: no conditions. -/
import Derived.Test.YtomeiaphaimjoaaOpnFnExactGetNum
import Derived.Test.YtomeiaphaimjoaaPFnExactGetNumx
namespace Go.Proofs.Ytomeiaphaimjoaa.Pure
open Go.RowKit Go.Proofs.Ytomeiaphaimjoaa.PFnExactGetNum Go.Proofs.YtomeiaphaimjoaaW.PrintWords Go.Proofs.YtomeiaphaimjoaaW.PrintLast Go.Proofs.YtomeiaphaimjoaaW.PrintMore Go.Proofs.Ytomeiaphaimjoaa.OpnFnExactGetNum

theorem w64 {x : Int} (h0 : -9223372036854775808 ≤ x) (h1 : x ≤ 9223372036854775807) : wrap64 x = x := by
  unfold wrap64
  omega

theorem wf_i64 {a : Int} (h : (Lit.int .i64 a).wf = true) : -9223372036854775808 ≤ a ∧ a ≤ 9223372036854775807 := by
  simp [Lit.wf] at h
  have h1 : IntKind.min .i64 = -9223372036854775808 := by decide
  have h2 : IntKind.max .i64 = 9223372036854775807 := by decide
  omega


/-- The bytes of a number that is not below 0, at so many rounds. -/
def numEnc : Nat → Int → List Int
  | 0, n => [n]
  | d + 1, n => if n > 127 then (n % 128 + 128) :: numEnc d (n / 128) else [n]

def zig (x : Int) : Int := if x < 0 then -2 * x - 1 else 2 * x

/-- PutNum, as the document says it. -/
def putNum (x : Int) : List Int := if -2000000000 ≤ x ∧ x ≤ 2000000000 then numEnc 4 (zig x) else []

theorem numEnc_len : ∀ (d : Nat) (n : Int), 0 < (numEnc d n).length ∧ (numEnc d n).length ≤ d + 1 := by
  intro d
  induction d with
  | zero => intro n; simp [numEnc]
  | succ d ih =>
    intro n
    simp only [numEnc]
    split
    · have := ih (n / 128); simp only [List.length_cons]; omega
    · simp

theorem putNum_len (x : Int) : (putNum x).length ≤ 5 := by
  unfold putNum
  split
  · exact (numEnc_len 4 _).2
  · simp

theorem putNum_nil (x : Int) : putNum x = [] ↔ ¬ (-2000000000 ≤ x ∧ x ≤ 2000000000) := by
  unfold putNum
  split
  · rename_i h
    have := (numEnc_len 4 (zig x)).1
    constructor
    · intro h'; rw [h'] at this; simp at this
    · intro h'; exact absurd h h'
  · rename_i h; simp [h]

/-- Two numbers without a common bit. -/
theorem or_add (x y : Int) (i : Nat) (hi : i ≤ 62) (hx0 : 0 ≤ x) (hx : x < 2 ^ i) (hy0 : 0 ≤ y) (hy : y % 2 ^ i = 0) (hy1 : y < 9223372036854775808) : Go.bits .or .i64 x y = x + y := by
  have hcomm : Go.bits .or .i64 x y = Go.bits .or .i64 y x := by
    unfold Go.bits
    simp only [BitVec.or_comm]
  have h63 : (2 : Int) ^ 63 = 9223372036854775808 := by decide
  have hpw : (2 : Int) ^ i ≤ 2 ^ 62 := by
    have := Nat.pow_le_pow_right (n := 2) (by decide) hi
    exact_mod_cast this
  have h62 : (2 : Int) ^ 62 = 4611686018427387904 := by decide
  rw [hcomm, bits_join .i64 63 (by decide) (fun n h0 h1 => by rw [IntKind.wrap_i64]; omega) i y x hy0 hy (by omega) hx0 hx (by omega), Int.add_comm]

/-- What GetNum tells from byte number i on, at so many rounds: n is what the bytes ahead came to. -/
def dec (l : List Int) (at_ : Int) : Nat → Nat → Int → Int × Int × Bool
  | 0, _, _ => (0, 0, false)
  | r + 1, i, n =>
    if at_ + i < l.length then
      if rd l (at_ + i) > 127 then dec l at_ r (i + 1) (n + rd l (at_ + i) % 128 * 128 ^ i)
      else
        if (rd l (at_ + i) = 0 ∧ 0 < i) ∨ ¬ (-2000000000 ≤ (if (n + rd l (at_ + i) % 128 * 128 ^ i) % 2 = 1 then -((n + rd l (at_ + i) % 128 * 128 ^ i) / 2) - 1 else (n + rd l (at_ + i) % 128 * 128 ^ i) / 2) ∧ (if (n + rd l (at_ + i) % 128 * 128 ^ i) % 2 = 1 then -((n + rd l (at_ + i) % 128 * 128 ^ i) / 2) - 1 else (n + rd l (at_ + i) % 128 * 128 ^ i) / 2) ≤ 2000000000) then (0, 0, false)
        else ((if (n + rd l (at_ + i) % 128 * 128 ^ i) % 2 = 1 then -((n + rd l (at_ + i) % 128 * 128 ^ i) / 2) - 1 else (n + rd l (at_ + i) % 128 * 128 ^ i) / 2), at_ + i + 1, true)
    else (0, 0, false)

def isByte (l : List Int) : Prop := ∀ x ∈ l, 0 ≤ x ∧ x ≤ 255

theorem isByte_rd {l : List Int} (h : isByte l) (i : Int) : 0 ≤ rd l i ∧ rd l i ≤ 255 := by
  unfold rd
  rw [List.getD_eq_getElem?_getD]
  rcases Nat.lt_or_ge i.toNat l.length with hi | hi
  · rw [List.getElem?_eq_getElem hi]
    exact h _ (List.getElem_mem hi)
  · rw [List.getElem?_eq_none hi]
    simp

theorem pow128 : ∀ i : Nat, i ≤ 5 → (1 : Int) ≤ 128 ^ i ∧ (128 : Int) ^ i ≤ 34359738368 := by
  intro i hi
  rcases (by omega : i = 0 ∨ i = 1 ∨ i = 2 ∨ i = 3 ∨ i = 4 ∨ i = 5) with rfl | rfl | rfl | rfl | rfl | rfl <;> decide

theorem shl7 (c : Int) (i : Nat) (hi : i < 5) (h0 : 0 ≤ c) (h1 : c ≤ 127) : shl .i64 c (wrap64 (7 * (i : Int))) = c * 128 ^ i := by
  have e : wrap64 (7 * (i : Int)) = ((7 * i : Nat) : Int) := by rw [w64 (by omega) (by omega)]; omega
  rw [e]
  unfold shl
  rw [IntKind.wrap_i64]
  rcases (by omega : i = 0 ∨ i = 1 ∨ i = 2 ∨ i = 3 ∨ i = 4) with rfl | rfl | rfl | rfl | rfl <;> simp [IntKind.bits] <;> omega

theorem tmod128 (c : Int) (h0 : 0 ≤ c) : Int.tmod c 128 = c % 128 := Int.tmod_eq_emod_of_nonneg h0

theorem bools_ne (a b : Bool) (h : ¬ (a = b)) : a = !b := by cases a <;> cases b <;> simp_all

/-- What both tell of bytes at a place. -/
def getNum (l : List Int) (at_ : Int) : Int × Int × Bool := if 0 ≤ at_ ∧ at_ < l.length then dec l at_ 5 0 0 else (0, 0, false)


theorem spec_putnum_l0 : ∀ (d k : Nat) (n : Int) (acc : List Int), 0 ≤ n → n < 128 ^ (d + 1) → d < k → n ≤ 9223372036854775807 → acc.length + d < 140737488355327 → spec_PutNum.l0 k acc n = some (acc ++ numEnc d n) := by
  intro d
  induction d with
  | zero =>
    intro k n acc h0 h1 hk hn hl
    obtain ⟨k, rfl⟩ : ∃ m, k = m + 1 := ⟨k - 1, by omega⟩
    simp only [spec_PutNum.l0, numEnc]; rw [if_neg (by omega), if_pos (by omega), show n % 256 = n by omega]
  | succ d ih =>
    intro k n acc h0 h1 hk hn hl
    obtain ⟨k, rfl⟩ : ∃ m, k = m + 1 := ⟨k - 1, by omega⟩
    simp only [spec_PutNum.l0, numEnc]
    by_cases hb : n > 127
    · rw [if_pos hb, if_pos (by omega : acc.length < 140737488355328), if_pos hb]
      have hd : wrap64 (Int.tdiv n 128) = n / 128 := by
        rw [Int.tdiv_eq_ediv_of_nonneg h0]
        exact w64 (by omega) (by omega)
      have hm : (wrap64 ((Int.tmod n 128) + 128)) % 256 = n % 128 + 128 := by
        rw [Int.tmod_eq_emod_of_nonneg h0, w64 (by omega) (by omega)]
        omega
      rw [hd, hm, ih k (n / 128) (acc ++ [n % 128 + 128]) (by omega) (by
        have : (128 : Int) ^ (d + 1 + 1) = 128 ^ (d + 1) * 128 := Int.pow_succ ..
        omega) (by omega) (by omega) (by simp; omega)]
      simp
    · rw [if_neg hb, if_pos (by omega), if_neg hb, show n % 256 = n by omega]

theorem spec_putnum (a0 : Int) (k : Nat) (hk : 20 < k) : spec_PutNum.f k a0 = some (putNum a0) := by
  unfold spec_PutNum.f putNum zig
  by_cases hin : -2000000000 ≤ a0 ∧ a0 ≤ 2000000000
  · have hsp : spec_l1In.f a0 (-2000000000) 2000000000 = some true := by
      unfold spec_l1In.f; rw [if_pos hin.1]; simp [hin.2]
    simp only [Option.bind_some, hsp, if_true]
    rw [if_pos hin]
    obtain ⟨k, rfl⟩ : ∃ m, k = m + 1 := ⟨k - 1, by omega⟩
    by_cases hneg : a0 < 0
    · rw [if_pos hneg, if_pos hneg, w64 (x := (-2) * a0) (by omega) (by omega), w64 (by omega) (by omega)]
      simp only [spec_PutNum.j0]
      rw [spec_putnum_l0 4 k (-2 * a0 - 1) [] (by omega) (by omega) (by omega) (by omega) (by simp)]
      rfl
    · rw [if_neg hneg, if_neg hneg, w64 (x := 2 * a0) (by omega) (by omega)]
      simp only [spec_PutNum.j0]
      rw [spec_putnum_l0 4 k (2 * a0) [] (by omega) (by omega) (by omega) (by omega) (by simp)]
      rfl
  · have hsp : spec_l1In.f a0 (-2000000000) 2000000000 = some false := by
      unfold spec_l1In.f
      split
      · simp; omega
      · rfl
    simp only [Option.bind_some, hsp]
    rw [if_neg hin]
    rfl

/-- So does the reference's. -/
theorem spec_getnum_l0 (l : List Int) (hb : isByte l) (at_ : Int) (h0 : 0 ≤ at_) (hl : l.length ≤ 140737488355328) (ha : at_ ≤ l.length) : ∀ (r i : Nat) (n : Int) (k : Nat), i + r = 5 → 0 ≤ n → n < 128 ^ i → 2 * r + 30 < k →
    spec_GetNum.l0 k l at_ n i = some (dec l at_ r i n) := by
  intro r
  induction r with
  | zero =>
    intro i n k hi hn0 hn hk
    obtain ⟨k, rfl⟩ : ∃ m, k = m + 2 := ⟨k - 2, by omega⟩
    simp only [spec_GetNum.l0]
    rw [if_neg (by omega)]
    simp only [spec_GetNum.j2, dec]; rfl
  | succ r ih =>
    intro i n k hi hn0 hn hk
    obtain ⟨k, rfl⟩ : ∃ m, k = m + 2 := ⟨k - 2, by omega⟩
    have hw : wrap64 (at_ + (i : Int)) = at_ + i := w64 (by omega) (by omega)
    have hp := pow128 i (by omega)
    have hp1 := pow128 (i + 1) (by omega)
    have hsucc : (128 : Int) ^ (i + 1) = 128 ^ i * 128 := Int.pow_succ ..
    simp only [spec_GetNum.l0]
    rw [if_pos (by omega), hw]
    simp only [spec_GetNum.j2, dec]
    by_cases hlt : at_ + (i : Int) < l.length
    · obtain ⟨hc0, hc1⟩ := isByte_rd hb (at_ + i)
      rw [if_pos hlt, if_pos (by simpa using hlt), hw, if_pos (by omega), if_pos hlt, if_pos (by rw [w64 (by omega) (by omega)]; omega)]
      rw [w64 (x := rd l (at_ + i)) (by omega) (by omega), tmod128 _ hc0, shl7 _ i (by omega) (by omega) (by omega)]
      generalize rd l (at_ + i) = c at *
      have hm0 : 0 ≤ c % 128 * 128 ^ i := Int.mul_nonneg (by omega) (by omega)
      have hm1 : c % 128 * 128 ^ i ≤ 127 * 128 ^ i := Int.mul_le_mul_of_nonneg_right (by omega) (by omega)
      have hor : Go.bits .or .i64 n (c % 128 * 128 ^ i) = n + c % 128 * 128 ^ i := by
        have e : (128 : Int) ^ i = 2 ^ (7 * i) := by rw [Int.pow_mul]; rfl
        refine or_add n _ (7 * i) (by omega) hn0 (by rw [← e]; exact hn) hm0 ?_ (by omega)
        rw [← e]
        exact Int.mul_emod_left _ _
      rw [hor]
      generalize c % 128 * 128 ^ i = d at *
      by_cases hc : c > 127
      · rw [if_pos (by omega), if_pos hc, w64 (x := (i : Int) + 1) (by omega) (by omega)]
        have := ih (i + 1) (n + d) k (by omega) (by omega) (by omega) (by omega)
        rw [← this]
        congr 1
      · rw [if_neg (by omega), if_neg hc]
        have hmod : Int.tmod (n + d) 2 = (n + d) % 2 := Int.tmod_eq_emod_of_nonneg (by omega)
        have hdiv : Int.tdiv (n + d) 2 = (n + d) / 2 := Int.tdiv_eq_ediv_of_nonneg (by omega)
        rw [hmod, hdiv]
        have hy : wrap64 ((n + d) / 2) = (n + d) / 2 := w64 (by omega) (by omega)
        rw [hy]
        have hx : wrap64 ((wrap64 (-((n + d) / 2))) - 1) = -((n + d) / 2) - 1 := by
          rw [w64 (x := -((n + d) / 2)) (by omega) (by omega), w64 (by omega) (by omega)]
        have he : wrap64 (at_ + i + 1) = at_ + i + 1 := w64 (by omega) (by omega)
        rw [hx, he]
        rw [spec_putnum _ k (by omega), spec_putnum _ k (by omega)]
        have hpn := putNum_nil (-((n + d) / 2) - 1)
        have hqn := putNum_nil ((n + d) / 2)
        generalize putNum (-((n + d) / 2) - 1) = p at *
        generalize putNum ((n + d) / 2) = q at *
        simp only [Option.bind_some]
        by_cases ho : (n + d) % 2 = 1
        · simp only [if_pos ho]
          by_cases hr : (-2000000000 ≤ -((n + d) / 2) - 1 ∧ -((n + d) / 2) - 1 ≤ 2000000000)
          · have hne : ¬ ((p.length : Int) = 0) := by
              intro h
              have : p = [] := List.eq_nil_of_length_eq_zero (by omega)
              exact (hpn.1 this) hr
            rw [if_neg hne]
            by_cases hz : c = 0
            · rw [if_pos hz]
              by_cases hi0 : (i : Int) > 0
              · rw [if_pos hi0, if_pos (.inl ⟨hz, by omega⟩)]
              · rw [if_neg hi0, if_neg (by rintro (⟨_, h⟩ | h) <;> omega)]
            · rw [if_neg hz, if_neg (by rintro (⟨h, _⟩ | h) <;> omega)]
          · have he0 : p = [] := hpn.2 hr
            rw [he0]
            simp only [List.length_nil, hr, not_false_eq_true, or_true, if_true]
            simp
        · simp only [if_neg ho]
          by_cases hr : (-2000000000 ≤ (n + d) / 2 ∧ (n + d) / 2 ≤ 2000000000)
          · have hne : ¬ ((q.length : Int) = 0) := by
              intro h
              have : q = [] := List.eq_nil_of_length_eq_zero (by omega)
              exact (hqn.1 this) hr
            rw [if_neg hne]
            by_cases hz : c = 0
            · rw [if_pos hz]
              by_cases hi0 : (i : Int) > 0
              · rw [if_pos hi0, if_pos (.inl ⟨hz, by omega⟩)]
              · rw [if_neg hi0, if_neg (by rintro (⟨_, h⟩ | h) <;> omega)]
            · rw [if_neg hz, if_neg (by rintro (⟨h, _⟩ | h) <;> omega)]
          · have he0 : q = [] := hqn.2 hr
            rw [he0]
            simp only [List.length_nil, hr, not_false_eq_true, or_true, if_true]
            simp
    · rw [if_neg hlt, if_neg (by simp; omega)]

theorem spec_getnum (l : List Int) (hb : isByte l) (hl : l.length ≤ 140737488355328) (at_ : Int) (hw0 : -9223372036854775808 ≤ at_) (hw1 : at_ ≤ 9223372036854775807) (k : Nat) (hk : 60 < k) :
    spec_GetNum.f k l at_ = some (getNum l at_) := by
  unfold getNum
  unfold spec_GetNum.f
  obtain ⟨k, rfl⟩ : ∃ m, k = m + 1 := ⟨k - 1, by omega⟩
  simp only [spec_GetNum.j0, if_true]
  by_cases h0 : at_ < 0
  · rw [if_pos h0, if_neg (by omega)]
  · rw [if_neg h0]
    by_cases h1 : at_ ≥ l.length
    · rw [if_pos (by simpa using h1), if_neg (by omega)]
    · rw [if_neg (by simpa using h1), if_pos (by omega)]
      exact spec_getnum_l0 l hb at_ (by omega) hl (by omega) 5 0 0 k (by omega) (by omega) (by omega) (by omega)

/-- The program's loop tells what dec tells. -/
theorem impl_getnum_l0 (l : List Int) (hb : isByte l) (at_ : Int) (h0 : 0 ≤ at_) (hl : l.length ≤ 140737488355328) (ha : at_ ≤ l.length) : ∀ (r i : Nat) (n : Int) (k : Nat), i + r = 5 → 0 ≤ n → n < 128 ^ i → 2 * r + 1 < k →
    impl_GetNum.l0 k l at_ n i = some (dec l at_ r i n) := by
  intro r
  induction r with
  | zero =>
    intro i n k hi hn0 hn hk
    obtain ⟨k, rfl⟩ : ∃ m, k = m + 1 := ⟨k - 1, by omega⟩
    simp only [impl_GetNum.l0]
    rw [if_neg (by omega)]
    cases k with
    | zero => omega
    | succ k => simp only [impl_GetNum.j1, dec]; rfl
  | succ r ih =>
    intro i n k hi hn0 hn hk
    obtain ⟨k, rfl⟩ : ∃ m, k = m + 2 := ⟨k - 2, by omega⟩
    have hw : wrap64 (at_ + (i : Int)) = at_ + i := w64 (by omega) (by omega)
    have hp := pow128 i (by omega)
    have hp1 := pow128 (i + 1) (by omega)
    have hsucc : (128 : Int) ^ (i + 1) = 128 ^ i * 128 := Int.pow_succ ..
    simp only [impl_GetNum.l0]
    rw [if_pos (by omega), hw]
    simp only [impl_GetNum.j1, dec]
    by_cases hlt : at_ + (i : Int) < l.length
    · obtain ⟨hc0, hc1⟩ := isByte_rd hb (at_ + i)
      rw [if_pos hlt, if_pos (by simpa using hlt), hw, if_pos (by omega), if_pos hlt, if_pos (by rw [w64 (by omega) (by omega)]; omega)]
      rw [tmod128 _ hc0, w64 (x := rd l (at_ + i) % 128) (by omega) (by omega), shl7 _ i (by omega) (by omega) (by omega)]
      generalize rd l (at_ + i) = c at *
      have hm0 : 0 ≤ c % 128 * (128 : Int) ^ i := Int.mul_nonneg (by omega) (by omega)
      have hm1 : c % 128 * 128 ^ i ≤ 127 * 128 ^ i := Int.mul_le_mul_of_nonneg_right (by omega) (by omega)
      generalize c % 128 * 128 ^ i = d at *
      rw [w64 (x := n + d) (by omega) (by omega)]
      by_cases hc : c > 127
      · rw [if_pos hc, if_pos hc, w64 (x := (i : Int) + 1) (by omega) (by omega)]
        have := ih (i + 1) (n + d) k (by omega) (by omega) (by omega) (by omega)
        rw [← this]
        congr 1
      · rw [if_neg hc, if_neg hc]
        have hmod : Int.tmod (n + d) 2 = (n + d) % 2 := Int.tmod_eq_emod_of_nonneg (by omega)
        have hdiv : Int.tdiv (n + d) 2 = (n + d) / 2 := Int.tdiv_eq_ediv_of_nonneg (by omega)
        rw [hmod, hdiv]
        have hx : (n + d) % 2 = 1 → wrap64 (Int.tdiv (wrap64 (-(wrap64 ((n + d) + 1)))) 2) = -((n + d) / 2) - 1 := by
          intro ho
          rw [w64 (x := (n + d) + 1) (by omega) (by omega), w64 (x := -((n + d) + 1)) (by omega) (by omega), Int.neg_tdiv, Int.tdiv_eq_ediv_of_nonneg (by omega), w64 (by omega) (by omega)]
          omega
        have hy : wrap64 ((n + d) / 2) = (n + d) / 2 := w64 (by omega) (by omega)
        have he : wrap64 (at_ + i + 1) = at_ + i + 1 := w64 (by omega) (by omega)
        have hwi : ∀ x : Int, impl_within.f x (-2000000000) 2000000000 = some (decide (-2000000000 ≤ x ∧ x ≤ 2000000000)) := by
          intro x
          unfold impl_within.f
          by_cases h : x ≥ -2000000000
          · rw [if_pos h]; congr 1; exact decide_eq_decide.2 ⟨fun h' => ⟨h, h'⟩, fun h' => h'.2⟩
          · rw [if_neg h]; symm; congr 1; exact decide_eq_false (fun h' => h h'.1)
        by_cases ho : (n + d) % 2 = 1
        · rw [if_pos ho, hx ho, he]
          simp only [hwi, Option.bind_some, if_pos ho]
          by_cases hz : c = 0
          · rw [if_pos hz]
            by_cases hi0 : (i : Int) > 0
            · rw [if_pos hi0, if_pos (.inl ⟨hz, by omega⟩)]
            · rw [if_neg hi0]
              by_cases hr : (-2000000000 ≤ -((n + d) / 2) - 1 ∧ -((n + d) / 2) - 1 ≤ 2000000000)
              · rw [if_pos (decide_eq_true hr), if_neg (by rintro (⟨_, h⟩ | h) <;> omega)]
              · rw [if_neg (by simp [hr]), if_pos (.inr hr)]
          · rw [if_neg hz]
            by_cases hr : (-2000000000 ≤ -((n + d) / 2) - 1 ∧ -((n + d) / 2) - 1 ≤ 2000000000)
            · rw [if_pos (decide_eq_true hr), if_neg (by rintro (⟨h, _⟩ | h) <;> omega)]
            · rw [if_neg (by simp [hr]), if_pos (.inr hr)]
        · rw [if_neg ho, hy, he]
          simp only [hwi, Option.bind_some, if_neg ho]
          by_cases hz : c = 0
          · rw [if_pos hz]
            by_cases hi0 : (i : Int) > 0
            · rw [if_pos hi0, if_pos (.inl ⟨hz, by omega⟩)]
            · rw [if_neg hi0]
              by_cases hr : (-2000000000 ≤ (n + d) / 2 ∧ (n + d) / 2 ≤ 2000000000)
              · rw [if_pos (decide_eq_true hr), if_neg (by rintro (⟨_, h⟩ | h) <;> omega)]
              · rw [if_neg (by simp [hr]), if_pos (.inr hr)]
          · rw [if_neg hz]
            by_cases hr : (-2000000000 ≤ (n + d) / 2 ∧ (n + d) / 2 ≤ 2000000000)
            · rw [if_pos (decide_eq_true hr), if_neg (by rintro (⟨h, _⟩ | h) <;> omega)]
            · rw [if_neg (by simp [hr]), if_pos (.inr hr)]
    · rw [if_neg hlt, if_neg (by simp; omega)]

theorem impl_getnum (l : List Int) (hb : isByte l) (hl : l.length ≤ 140737488355328) (at_ : Int) (hw0 : -9223372036854775808 ≤ at_) (hw1 : at_ ≤ 9223372036854775807) (k : Nat) (hk : 60 < k) :
    impl_GetNum.f k l at_ = some (getNum l at_) := by
  unfold getNum
  unfold impl_GetNum.f impl_within.f
  rw [w64 (x := (l.length : Int) - 1) (by omega) (by omega)]
  by_cases h0 : 0 ≤ at_
  · rw [if_pos h0]
    simp only [Option.bind_some]
    by_cases h1 : at_ < l.length
    · rw [if_pos (by simp; omega), if_pos ⟨h0, h1⟩]
      exact impl_getnum_l0 l hb at_ (by omega) hl (by omega) 5 0 0 k (by omega) (by omega) (by omega) (by omega)
    · rw [if_neg (by simp; omega), if_neg (by omega)]
  · rw [if_neg h0, if_neg (by omega)]
    rfl

theorem eqB (d : Nat) : ∀ (k : Nat) (x : List Int) (i : Int), 0 ≤ i → i ≤ x.length → (x.length : Int) - i = d → d < k → x.length ≤ 140737488355328 → laws_eqByteS.l0 k x x i = some true := by
  induction d with
  | zero =>
    intro k x i h0 h1 hd hk hx
    obtain ⟨k, rfl⟩ : ∃ m, k = m + 1 := ⟨k - 1, by omega⟩
    simp only [laws_eqByteS.l0]; rw [if_neg (by omega)]
  | succ d ih =>
    intro k x i h0 h1 hd hk hx
    obtain ⟨k, rfl⟩ : ∃ m, k = m + 1 := ⟨k - 1, by omega⟩
    simp only [laws_eqByteS.l0]
    rw [if_pos (by omega), if_pos h0, if_pos (by omega)]
    simp only [if_true]
    rw [w64 (by omega) (by omega)]
    exact ih k x (i + 1) (by omega) (by omega) (by omega) (by omega) hx

theorem eqByteS_self (x : List Int) (hx : x.length ≤ 140737488355328) (k : Nat) (hk : x.length < k) : laws_eqByteS.f k x x = some true := by
  unfold laws_eqByteS.f
  rw [if_pos rfl]
  exact eqB x.length k x 0 (by omega) (by omega) (by omega) (by omega) hx

theorem toB (d : Nat) : ∀ (k : Nat) (x y : List Int) (i : Int), 0 ≤ i → i ≤ x.length → y.length = x.length → (x.length : Int) - i = d → d < k → x.length ≤ 140737488355328 → (∀ j : Nat, (j : Int) < i → y.getD j 0 = x.getD j 0) → laws_toByteS.l0 k x y i = some x := by
  induction d with
  | zero =>
    intro k x y i h0 h1 hy hd hk hx h
    obtain ⟨k, rfl⟩ : ∃ m, k = m + 1 := ⟨k - 1, by omega⟩
    simp only [laws_toByteS.l0]; rw [if_neg (by omega)]
    congr 1
    apply List.ext_getElem hy
    intro j hj hj'
    have := h j (by omega)
    simpa [List.getD_eq_getElem?_getD, hj, hj'] using this
  | succ d ih =>
    intro k x y i h0 h1 hy hd hk hx h
    obtain ⟨k, rfl⟩ : ∃ m, k = m + 1 := ⟨k - 1, by omega⟩
    simp only [laws_toByteS.l0]
    rw [if_pos (by omega), if_pos h0, if_pos (by omega), w64 (by omega) (by omega)]
    refine ih k x _ (i + 1) (by omega) (by omega) (by simpa using hy) (by omega) (by omega) hx (fun j hj => ?_)
    by_cases he : (j : Int) = i
    · have hj2 : (i : Int).toNat = j := by omega
      simp only [List.getD_eq_getElem?_getD, hj2]
      rw [List.getElem?_set_self (by omega)]
      simp [rd, hj2, List.getD_eq_getElem?_getD]
    · rw [← h j (by omega)]
      simp only [List.getD_eq_getElem?_getD]
      rw [List.getElem?_set_ne (by omega)]

theorem toByteS_all (x : List Int) (hx : x.length ≤ 140737488355328) (k : Nat) (hk : x.length < k) : laws_toByteS.f k x = some x := by
  unfold laws_toByteS.f
  rw [if_pos (by omega), if_pos (by omega)]
  exact toB x.length k x _ 0 (by omega) (by omega) (by simp) (by omega) (by omega) hx (fun j hj => by omega)

theorem wf_u8 {l : List Int} (h : ∀ x ∈ l, (Lit.int .u8 x).wf = true) : isByte l := by
  intro x hx
  have := h x hx
  simp [Lit.wf] at this
  have h1 : IntKind.min .u8 = 0 := by decide
  have h2 : IntKind.max .u8 = 255 := by decide
  omega

theorem FnExactGetNum : OpnFnExactGetNum.Pure := by
  intro l0 a1 ⟨hl, hb⟩ ha
  obtain ⟨ha0, ha1⟩ := wf_i64 ha
  have hb' := wf_u8 hb
  refine ⟨l0.length + 100, ?_⟩
  unfold laws_FnExactGetNum.f
  by_cases hbig : (l0.length : Int) > 1048576
  · rw [if_pos hbig]
  · rw [if_neg hbig, toByteS_all l0 (by omega) _ (by omega)]
    have h1 := spec_getnum l0 hb' (by omega) a1 ha0 ha1 (l0.length + 100) (by omega)
    have h2 := impl_getnum l0 hb' (by omega) a1 ha0 ha1 (l0.length + 100) (by omega)
    simp only [Option.bind_some, h1, h2, if_true, bne_self_eq_false]
    simp only [laws_FnExactGetNum.j0, toByteS_all l0 (by omega) (l0.length + 99) (by omega), Option.bind_some, eqByteS_self l0 (by omega) (l0.length + 99) (by omega)]
    rfl

end Go.Proofs.Ytomeiaphaimjoaa.Pure
