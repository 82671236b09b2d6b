/- A drawn number is read from its bytes as it was; bytes that are read are those of the number: no conditions. -/
import Derived.Test.YtomeiaphaimjoaaOpnFnNumBytes
import Derived.Test.YtomeiaphaimjoaaPFnNumBytesx
namespace Go.Proofs.Ytomeiaphaimjoaa.Pure
open Go.RowKit Go.Proofs.Ytomeiaphaimjoaa.PFnNumBytes Go.Proofs.YtomeiaphaimjoaaW.PrintWords Go.Proofs.YtomeiaphaimjoaaW.PrintLast Go.Proofs.YtomeiaphaimjoaaW.PrintMore Go.Proofs.Ytomeiaphaimjoaa.OpnFnNumBytes

theorem w64 {x : Int} (h0 : -9223372036854775808 ≤ x) (h1 : x ≤ 9223372036854775807) : wrap64 x = x := by
  unfold wrap64
  omega

theorem wf_i64 {a : Int} (h : (Lit.int .i64 a).wf = true) : -9223372036854775808 ≤ a ∧ a ≤ 9223372036854775807 := by
  simp [Lit.wf] at h
  have h1 : IntKind.min .i64 = -9223372036854775808 := by decide
  have h2 : IntKind.max .i64 = 9223372036854775807 := by decide
  omega


/-- From some number of rounds on, f tells v. -/
def Ev {α : Type} (f : Nat → Option α) (v : α) : Prop := ∃ k0, ∀ k, k0 ≤ k → f k = some v
theorem ev_of {α : Type} {f : Nat → Option α} {v : α} (n : Nat) (h : ∀ k, n < k → f k = some v) : Ev f v := ⟨n + 1, fun k hk => h k (by omega)⟩
theorem ev_all {α : Type} {f : Nat → Option α} {v : α} (h : ∀ k, f k = some v) : Ev f v := ⟨0, fun k _ => h k⟩
theorem ev_some {α : Type} (v : α) : Ev (fun _ => some v) v := ⟨0, fun _ _ => rfl⟩
theorem ev_eq {α : Type} {f : Nat → Option α} {v u : α} (h : Ev f v) (e : v = u) : Ev f u := e ▸ h
theorem ev_bind {α β : Type} {f : Nat → Option α} {g : Nat → α → Option β} {a : α} {b : β} (hf : Ev f a) (hg : Ev (fun k => g k a) b) : Ev (fun k => (f k).bind (g k)) b := by
  obtain ⟨m, hm⟩ := hf
  obtain ⟨n, hn⟩ := hg
  refine ⟨m + n, fun k hk => ?_⟩
  show (f k).bind (g k) = _
  rw [hm k (by omega)]
  exact hn k (by omega)
theorem ev_step {α : Type} {f g : Nat → Option α} {v : α} (e : ∀ k, f (k + 1) = g k) (h : Ev g v) : Ev f v := by
  obtain ⟨n, hn⟩ := h
  refine ⟨n + 1, fun k hk => ?_⟩
  obtain ⟨k, rfl⟩ : ∃ m, k = m + 1 := ⟨k - 1, by omega⟩
  rw [e]; exact hn k (by omega)
theorem ev_pos {α : Type} {f g : Nat → Option α} {v : α} {c : Prop} [Decidable c] (hc : c) (h : Ev f v) : Ev (fun k => if c then f k else g k) v := by simpa only [if_pos hc] using h
theorem ev_neg {α : Type} {f g : Nat → Option α} {v : α} {c : Prop} [Decidable c] (hc : ¬ c) (h : Ev g v) : Ev (fun k => if c then f k else g k) v := by simpa only [if_neg hc] using h
theorem ev_tt {α : Type} {f g : Nat → Option α} {v : α} (h : Ev f v) : Ev (fun k => if true = true then f k else g k) v := ev_pos rfl h

/-- The bytes of a number that is not below 0, at so many rounds. -/
def numEnc : Nat → Int → List Int
  | 0, n => [n]
  | d + 1, n => if n > 127 then (n % 128 + 128) :: numEnc d (n / 128) else [n]

def zig (x : Int) : Int := if x < 0 then -2 * x - 1 else 2 * x

/-- PutNum, as the document says it. -/
def putNum (x : Int) : List Int := if -2000000000 ≤ x ∧ x ≤ 2000000000 then numEnc 4 (zig x) else []

theorem numEnc_len : ∀ (d : Nat) (n : Int), 0 < (numEnc d n).length ∧ (numEnc d n).length ≤ d + 1 := by
  intro d
  induction d with
  | zero => intro n; simp [numEnc]
  | succ d ih =>
    intro n
    simp only [numEnc]
    split
    · have := ih (n / 128); simp only [List.length_cons]; omega
    · simp

theorem putNum_len (x : Int) : (putNum x).length ≤ 5 := by
  unfold putNum
  split
  · exact (numEnc_len 4 _).2
  · simp

theorem putNum_nil (x : Int) : putNum x = [] ↔ ¬ (-2000000000 ≤ x ∧ x ≤ 2000000000) := by
  unfold putNum
  split
  · rename_i h
    have := (numEnc_len 4 (zig x)).1
    constructor
    · intro h'; rw [h'] at this; simp at this
    · intro h'; exact absurd h h'
  · rename_i h; simp [h]

/-- Two numbers without a common bit. -/
theorem or_add (x y : Int) (i : Nat) (hi : i ≤ 62) (hx0 : 0 ≤ x) (hx : x < 2 ^ i) (hy0 : 0 ≤ y) (hy : y % 2 ^ i = 0) (hy1 : y < 9223372036854775808) : Go.bits .or .i64 x y = x + y := by
  have hcomm : Go.bits .or .i64 x y = Go.bits .or .i64 y x := by
    unfold Go.bits
    simp only [BitVec.or_comm]
  have h63 : (2 : Int) ^ 63 = 9223372036854775808 := by decide
  have hpw : (2 : Int) ^ i ≤ 2 ^ 62 := by
    have := Nat.pow_le_pow_right (n := 2) (by decide) hi
    exact_mod_cast this
  have h62 : (2 : Int) ^ 62 = 4611686018427387904 := by decide
  rw [hcomm, bits_join .i64 63 (by decide) (fun n h0 h1 => by rw [IntKind.wrap_i64]; omega) i y x hy0 hy (by omega) hx0 hx (by omega), Int.add_comm]

/-- What GetNum tells from byte number i on, at so many rounds: n is what the bytes ahead came to. -/
def dec (l : List Int) (at_ : Int) : Nat → Nat → Int → Int × Int × Bool
  | 0, _, _ => (0, 0, false)
  | r + 1, i, n =>
    if at_ + i < l.length then
      if rd l (at_ + i) > 127 then dec l at_ r (i + 1) (n + rd l (at_ + i) % 128 * 128 ^ i)
      else
        if (rd l (at_ + i) = 0 ∧ 0 < i) ∨ ¬ (-2000000000 ≤ (if (n + rd l (at_ + i) % 128 * 128 ^ i) % 2 = 1 then -((n + rd l (at_ + i) % 128 * 128 ^ i) / 2) - 1 else (n + rd l (at_ + i) % 128 * 128 ^ i) / 2) ∧ (if (n + rd l (at_ + i) % 128 * 128 ^ i) % 2 = 1 then -((n + rd l (at_ + i) % 128 * 128 ^ i) / 2) - 1 else (n + rd l (at_ + i) % 128 * 128 ^ i) / 2) ≤ 2000000000) then (0, 0, false)
        else ((if (n + rd l (at_ + i) % 128 * 128 ^ i) % 2 = 1 then -((n + rd l (at_ + i) % 128 * 128 ^ i) / 2) - 1 else (n + rd l (at_ + i) % 128 * 128 ^ i) / 2), at_ + i + 1, true)
    else (0, 0, false)

def isByte (l : List Int) : Prop := ∀ x ∈ l, 0 ≤ x ∧ x ≤ 255

theorem isByte_rd {l : List Int} (h : isByte l) (i : Int) : 0 ≤ rd l i ∧ rd l i ≤ 255 := by
  unfold rd
  rw [List.getD_eq_getElem?_getD]
  rcases Nat.lt_or_ge i.toNat l.length with hi | hi
  · rw [List.getElem?_eq_getElem hi]
    exact h _ (List.getElem_mem hi)
  · rw [List.getElem?_eq_none hi]
    simp

theorem pow128 : ∀ i : Nat, i ≤ 5 → (1 : Int) ≤ 128 ^ i ∧ (128 : Int) ^ i ≤ 34359738368 := by
  intro i hi
  rcases (by omega : i = 0 ∨ i = 1 ∨ i = 2 ∨ i = 3 ∨ i = 4 ∨ i = 5) with rfl | rfl | rfl | rfl | rfl | rfl <;> decide

theorem shl7 (c : Int) (i : Nat) (hi : i < 5) (h0 : 0 ≤ c) (h1 : c ≤ 127) : shl .i64 c (wrap64 (7 * (i : Int))) = c * 128 ^ i := by
  have e : wrap64 (7 * (i : Int)) = ((7 * i : Nat) : Int) := by rw [w64 (by omega) (by omega)]; omega
  rw [e]
  unfold shl
  rw [IntKind.wrap_i64]
  rcases (by omega : i = 0 ∨ i = 1 ∨ i = 2 ∨ i = 3 ∨ i = 4) with rfl | rfl | rfl | rfl | rfl <;> simp [IntKind.bits] <;> omega

theorem tmod128 (c : Int) (h0 : 0 ≤ c) : Int.tmod c 128 = c % 128 := Int.tmod_eq_emod_of_nonneg h0

theorem bools_ne (a b : Bool) (h : ¬ (a = b)) : a = !b := by cases a <;> cases b <;> simp_all

/-- What both tell of bytes at a place. -/
def getNum (l : List Int) (at_ : Int) : Int × Int × Bool := if 0 ≤ at_ ∧ at_ < l.length then dec l at_ 5 0 0 else (0, 0, false)


theorem spec_putnum_l0 : ∀ (d k : Nat) (n : Int) (acc : List Int), 0 ≤ n → n < 128 ^ (d + 1) → d < k → n ≤ 9223372036854775807 → acc.length + d < 140737488355327 → spec_PutNum.l0 k acc n = some (acc ++ numEnc d n) := by
  intro d
  induction d with
  | zero =>
    intro k n acc h0 h1 hk hn hl
    obtain ⟨k, rfl⟩ : ∃ m, k = m + 1 := ⟨k - 1, by omega⟩
    simp only [spec_PutNum.l0, numEnc]; rw [if_neg (by omega), if_pos (by omega), show n % 256 = n by omega]
  | succ d ih =>
    intro k n acc h0 h1 hk hn hl
    obtain ⟨k, rfl⟩ : ∃ m, k = m + 1 := ⟨k - 1, by omega⟩
    simp only [spec_PutNum.l0, numEnc]
    by_cases hb : n > 127
    · rw [if_pos hb, if_pos (by omega : acc.length < 140737488355328), if_pos hb]
      have hd : wrap64 (Int.tdiv n 128) = n / 128 := by
        rw [Int.tdiv_eq_ediv_of_nonneg h0]
        exact w64 (by omega) (by omega)
      have hm : (wrap64 ((Int.tmod n 128) + 128)) % 256 = n % 128 + 128 := by
        rw [Int.tmod_eq_emod_of_nonneg h0, w64 (by omega) (by omega)]
        omega
      rw [hd, hm, ih k (n / 128) (acc ++ [n % 128 + 128]) (by omega) (by
        have : (128 : Int) ^ (d + 1 + 1) = 128 ^ (d + 1) * 128 := Int.pow_succ ..
        omega) (by omega) (by omega) (by simp; omega)]
      simp
    · rw [if_neg hb, if_pos (by omega), if_neg hb, show n % 256 = n by omega]

theorem spec_putnum (a0 : Int) (k : Nat) (hk : 20 < k) : spec_PutNum.f k a0 = some (putNum a0) := by
  unfold spec_PutNum.f putNum zig
  by_cases hin : -2000000000 ≤ a0 ∧ a0 ≤ 2000000000
  · have hsp : spec_l1In.f a0 (-2000000000) 2000000000 = some true := by
      unfold spec_l1In.f; rw [if_pos hin.1]; simp [hin.2]
    simp only [Option.bind_some, hsp, if_true]
    rw [if_pos hin]
    obtain ⟨k, rfl⟩ : ∃ m, k = m + 1 := ⟨k - 1, by omega⟩
    by_cases hneg : a0 < 0
    · rw [if_pos hneg, if_pos hneg, w64 (x := (-2) * a0) (by omega) (by omega), w64 (by omega) (by omega)]
      simp only [spec_PutNum.j0]
      rw [spec_putnum_l0 4 k (-2 * a0 - 1) [] (by omega) (by omega) (by omega) (by omega) (by simp)]
      rfl
    · rw [if_neg hneg, if_neg hneg, w64 (x := 2 * a0) (by omega) (by omega)]
      simp only [spec_PutNum.j0]
      rw [spec_putnum_l0 4 k (2 * a0) [] (by omega) (by omega) (by omega) (by omega) (by simp)]
      rfl
  · have hsp : spec_l1In.f a0 (-2000000000) 2000000000 = some false := by
      unfold spec_l1In.f
      split
      · simp; omega
      · rfl
    simp only [Option.bind_some, hsp]
    rw [if_neg hin]
    rfl

/-- So does the reference's. -/
theorem spec_getnum_l0 (l : List Int) (hb : isByte l) (at_ : Int) (h0 : 0 ≤ at_) (hl : l.length ≤ 140737488355328) (ha : at_ ≤ l.length) : ∀ (r i : Nat) (n : Int) (k : Nat), i + r = 5 → 0 ≤ n → n < 128 ^ i → 2 * r + 30 < k →
    spec_GetNum.l0 k l at_ n i = some (dec l at_ r i n) := by
  intro r
  induction r with
  | zero =>
    intro i n k hi hn0 hn hk
    obtain ⟨k, rfl⟩ : ∃ m, k = m + 2 := ⟨k - 2, by omega⟩
    simp only [spec_GetNum.l0]
    rw [if_neg (by omega)]
    simp only [spec_GetNum.j2, dec]; rfl
  | succ r ih =>
    intro i n k hi hn0 hn hk
    obtain ⟨k, rfl⟩ : ∃ m, k = m + 2 := ⟨k - 2, by omega⟩
    have hw : wrap64 (at_ + (i : Int)) = at_ + i := w64 (by omega) (by omega)
    have hp := pow128 i (by omega)
    have hp1 := pow128 (i + 1) (by omega)
    have hsucc : (128 : Int) ^ (i + 1) = 128 ^ i * 128 := Int.pow_succ ..
    simp only [spec_GetNum.l0]
    rw [if_pos (by omega), hw]
    simp only [spec_GetNum.j2, dec]
    by_cases hlt : at_ + (i : Int) < l.length
    · obtain ⟨hc0, hc1⟩ := isByte_rd hb (at_ + i)
      rw [if_pos hlt, if_pos (by simpa using hlt), hw, if_pos (by omega), if_pos hlt, if_pos (by rw [w64 (by omega) (by omega)]; omega)]
      rw [w64 (x := rd l (at_ + i)) (by omega) (by omega), tmod128 _ hc0, shl7 _ i (by omega) (by omega) (by omega)]
      generalize rd l (at_ + i) = c at *
      have hm0 : 0 ≤ c % 128 * 128 ^ i := Int.mul_nonneg (by omega) (by omega)
      have hm1 : c % 128 * 128 ^ i ≤ 127 * 128 ^ i := Int.mul_le_mul_of_nonneg_right (by omega) (by omega)
      have hor : Go.bits .or .i64 n (c % 128 * 128 ^ i) = n + c % 128 * 128 ^ i := by
        have e : (128 : Int) ^ i = 2 ^ (7 * i) := by rw [Int.pow_mul]; rfl
        refine or_add n _ (7 * i) (by omega) hn0 (by rw [← e]; exact hn) hm0 ?_ (by omega)
        rw [← e]
        exact Int.mul_emod_left _ _
      rw [hor]
      generalize c % 128 * 128 ^ i = d at *
      by_cases hc : c > 127
      · rw [if_pos (by omega), if_pos hc, w64 (x := (i : Int) + 1) (by omega) (by omega)]
        have := ih (i + 1) (n + d) k (by omega) (by omega) (by omega) (by omega)
        rw [← this]
        congr 1
      · rw [if_neg (by omega), if_neg hc]
        have hmod : Int.tmod (n + d) 2 = (n + d) % 2 := Int.tmod_eq_emod_of_nonneg (by omega)
        have hdiv : Int.tdiv (n + d) 2 = (n + d) / 2 := Int.tdiv_eq_ediv_of_nonneg (by omega)
        rw [hmod, hdiv]
        have hy : wrap64 ((n + d) / 2) = (n + d) / 2 := w64 (by omega) (by omega)
        rw [hy]
        have hx : wrap64 ((wrap64 (-((n + d) / 2))) - 1) = -((n + d) / 2) - 1 := by
          rw [w64 (x := -((n + d) / 2)) (by omega) (by omega), w64 (by omega) (by omega)]
        have he : wrap64 (at_ + i + 1) = at_ + i + 1 := w64 (by omega) (by omega)
        rw [hx, he]
        rw [spec_putnum _ k (by omega), spec_putnum _ k (by omega)]
        have hpn := putNum_nil (-((n + d) / 2) - 1)
        have hqn := putNum_nil ((n + d) / 2)
        generalize putNum (-((n + d) / 2) - 1) = p at *
        generalize putNum ((n + d) / 2) = q at *
        simp only [Option.bind_some]
        by_cases ho : (n + d) % 2 = 1
        · simp only [if_pos ho]
          by_cases hr : (-2000000000 ≤ -((n + d) / 2) - 1 ∧ -((n + d) / 2) - 1 ≤ 2000000000)
          · have hne : ¬ ((p.length : Int) = 0) := by
              intro h
              have : p = [] := List.eq_nil_of_length_eq_zero (by omega)
              exact (hpn.1 this) hr
            rw [if_neg hne]
            by_cases hz : c = 0
            · rw [if_pos hz]
              by_cases hi0 : (i : Int) > 0
              · rw [if_pos hi0, if_pos (.inl ⟨hz, by omega⟩)]
              · rw [if_neg hi0, if_neg (by rintro (⟨_, h⟩ | h) <;> omega)]
            · rw [if_neg hz, if_neg (by rintro (⟨h, _⟩ | h) <;> omega)]
          · have he0 : p = [] := hpn.2 hr
            rw [he0]
            simp only [List.length_nil, hr, not_false_eq_true, or_true, if_true]
            simp
        · simp only [if_neg ho]
          by_cases hr : (-2000000000 ≤ (n + d) / 2 ∧ (n + d) / 2 ≤ 2000000000)
          · have hne : ¬ ((q.length : Int) = 0) := by
              intro h
              have : q = [] := List.eq_nil_of_length_eq_zero (by omega)
              exact (hqn.1 this) hr
            rw [if_neg hne]
            by_cases hz : c = 0
            · rw [if_pos hz]
              by_cases hi0 : (i : Int) > 0
              · rw [if_pos hi0, if_pos (.inl ⟨hz, by omega⟩)]
              · rw [if_neg hi0, if_neg (by rintro (⟨_, h⟩ | h) <;> omega)]
            · rw [if_neg hz, if_neg (by rintro (⟨h, _⟩ | h) <;> omega)]
          · have he0 : q = [] := hqn.2 hr
            rw [he0]
            simp only [List.length_nil, hr, not_false_eq_true, or_true, if_true]
            simp
    · rw [if_neg hlt, if_neg (by simp; omega)]

theorem spec_getnum (l : List Int) (hb : isByte l) (hl : l.length ≤ 140737488355328) (at_ : Int) (hw0 : -9223372036854775808 ≤ at_) (hw1 : at_ ≤ 9223372036854775807) (k : Nat) (hk : 60 < k) :
    spec_GetNum.f k l at_ = some (getNum l at_) := by
  unfold getNum
  unfold spec_GetNum.f
  obtain ⟨k, rfl⟩ : ∃ m, k = m + 1 := ⟨k - 1, by omega⟩
  simp only [spec_GetNum.j0, if_true]
  by_cases h0 : at_ < 0
  · rw [if_pos h0, if_neg (by omega)]
  · rw [if_neg h0]
    by_cases h1 : at_ ≥ l.length
    · rw [if_pos (by simpa using h1), if_neg (by omega)]
    · rw [if_neg (by simpa using h1), if_pos (by omega)]
      exact spec_getnum_l0 l hb at_ (by omega) hl (by omega) 5 0 0 k (by omega) (by omega) (by omega) (by omega)

/-- The program's loop tells what dec tells. -/
theorem impl_getnum_l0 (l : List Int) (hb : isByte l) (at_ : Int) (h0 : 0 ≤ at_) (hl : l.length ≤ 140737488355328) (ha : at_ ≤ l.length) : ∀ (r i : Nat) (n : Int) (k : Nat), i + r = 5 → 0 ≤ n → n < 128 ^ i → 2 * r + 1 < k →
    impl_GetNum.l0 k l at_ n i = some (dec l at_ r i n) := by
  intro r
  induction r with
  | zero =>
    intro i n k hi hn0 hn hk
    obtain ⟨k, rfl⟩ : ∃ m, k = m + 1 := ⟨k - 1, by omega⟩
    simp only [impl_GetNum.l0]
    rw [if_neg (by omega)]
    cases k with
    | zero => omega
    | succ k => simp only [impl_GetNum.j1, dec]; rfl
  | succ r ih =>
    intro i n k hi hn0 hn hk
    obtain ⟨k, rfl⟩ : ∃ m, k = m + 2 := ⟨k - 2, by omega⟩
    have hw : wrap64 (at_ + (i : Int)) = at_ + i := w64 (by omega) (by omega)
    have hp := pow128 i (by omega)
    have hp1 := pow128 (i + 1) (by omega)
    have hsucc : (128 : Int) ^ (i + 1) = 128 ^ i * 128 := Int.pow_succ ..
    simp only [impl_GetNum.l0]
    rw [if_pos (by omega), hw]
    simp only [impl_GetNum.j1, dec]
    by_cases hlt : at_ + (i : Int) < l.length
    · obtain ⟨hc0, hc1⟩ := isByte_rd hb (at_ + i)
      rw [if_pos hlt, if_pos (by simpa using hlt), hw, if_pos (by omega), if_pos hlt, if_pos (by rw [w64 (by omega) (by omega)]; omega)]
      rw [tmod128 _ hc0, w64 (x := rd l (at_ + i) % 128) (by omega) (by omega), shl7 _ i (by omega) (by omega) (by omega)]
      generalize rd l (at_ + i) = c at *
      have hm0 : 0 ≤ c % 128 * (128 : Int) ^ i := Int.mul_nonneg (by omega) (by omega)
      have hm1 : c % 128 * 128 ^ i ≤ 127 * 128 ^ i := Int.mul_le_mul_of_nonneg_right (by omega) (by omega)
      generalize c % 128 * 128 ^ i = d at *
      rw [w64 (x := n + d) (by omega) (by omega)]
      by_cases hc : c > 127
      · rw [if_pos hc, if_pos hc, w64 (x := (i : Int) + 1) (by omega) (by omega)]
        have := ih (i + 1) (n + d) k (by omega) (by omega) (by omega) (by omega)
        rw [← this]
        congr 1
      · rw [if_neg hc, if_neg hc]
        have hmod : Int.tmod (n + d) 2 = (n + d) % 2 := Int.tmod_eq_emod_of_nonneg (by omega)
        have hdiv : Int.tdiv (n + d) 2 = (n + d) / 2 := Int.tdiv_eq_ediv_of_nonneg (by omega)
        rw [hmod, hdiv]
        have hx : (n + d) % 2 = 1 → wrap64 (Int.tdiv (wrap64 (-(wrap64 ((n + d) + 1)))) 2) = -((n + d) / 2) - 1 := by
          intro ho
          rw [w64 (x := (n + d) + 1) (by omega) (by omega), w64 (x := -((n + d) + 1)) (by omega) (by omega), Int.neg_tdiv, Int.tdiv_eq_ediv_of_nonneg (by omega), w64 (by omega) (by omega)]
          omega
        have hy : wrap64 ((n + d) / 2) = (n + d) / 2 := w64 (by omega) (by omega)
        have he : wrap64 (at_ + i + 1) = at_ + i + 1 := w64 (by omega) (by omega)
        have hwi : ∀ x : Int, impl_within.f x (-2000000000) 2000000000 = some (decide (-2000000000 ≤ x ∧ x ≤ 2000000000)) := by
          intro x
          unfold impl_within.f
          by_cases h : x ≥ -2000000000
          · rw [if_pos h]; congr 1; exact decide_eq_decide.2 ⟨fun h' => ⟨h, h'⟩, fun h' => h'.2⟩
          · rw [if_neg h]; symm; congr 1; exact decide_eq_false (fun h' => h h'.1)
        by_cases ho : (n + d) % 2 = 1
        · rw [if_pos ho, hx ho, he]
          simp only [hwi, Option.bind_some, if_pos ho]
          by_cases hz : c = 0
          · rw [if_pos hz]
            by_cases hi0 : (i : Int) > 0
            · rw [if_pos hi0, if_pos (.inl ⟨hz, by omega⟩)]
            · rw [if_neg hi0]
              by_cases hr : (-2000000000 ≤ -((n + d) / 2) - 1 ∧ -((n + d) / 2) - 1 ≤ 2000000000)
              · rw [if_pos (decide_eq_true hr), if_neg (by rintro (⟨_, h⟩ | h) <;> omega)]
              · rw [if_neg (by simp [hr]), if_pos (.inr hr)]
          · rw [if_neg hz]
            by_cases hr : (-2000000000 ≤ -((n + d) / 2) - 1 ∧ -((n + d) / 2) - 1 ≤ 2000000000)
            · rw [if_pos (decide_eq_true hr), if_neg (by rintro (⟨h, _⟩ | h) <;> omega)]
            · rw [if_neg (by simp [hr]), if_pos (.inr hr)]
        · rw [if_neg ho, hy, he]
          simp only [hwi, Option.bind_some, if_neg ho]
          by_cases hz : c = 0
          · rw [if_pos hz]
            by_cases hi0 : (i : Int) > 0
            · rw [if_pos hi0, if_pos (.inl ⟨hz, by omega⟩)]
            · rw [if_neg hi0]
              by_cases hr : (-2000000000 ≤ (n + d) / 2 ∧ (n + d) / 2 ≤ 2000000000)
              · rw [if_pos (decide_eq_true hr), if_neg (by rintro (⟨_, h⟩ | h) <;> omega)]
              · rw [if_neg (by simp [hr]), if_pos (.inr hr)]
          · rw [if_neg hz]
            by_cases hr : (-2000000000 ≤ (n + d) / 2 ∧ (n + d) / 2 ≤ 2000000000)
            · rw [if_pos (decide_eq_true hr), if_neg (by rintro (⟨h, _⟩ | h) <;> omega)]
            · rw [if_neg (by simp [hr]), if_pos (.inr hr)]
    · rw [if_neg hlt, if_neg (by simp; omega)]

theorem impl_getnum (l : List Int) (hb : isByte l) (hl : l.length ≤ 140737488355328) (at_ : Int) (hw0 : -9223372036854775808 ≤ at_) (hw1 : at_ ≤ 9223372036854775807) (k : Nat) (hk : 60 < k) :
    impl_GetNum.f k l at_ = some (getNum l at_) := by
  unfold getNum
  unfold impl_GetNum.f impl_within.f
  rw [w64 (x := (l.length : Int) - 1) (by omega) (by omega)]
  by_cases h0 : 0 ≤ at_
  · rw [if_pos h0]
    simp only [Option.bind_some]
    by_cases h1 : at_ < l.length
    · rw [if_pos (by simp; omega), if_pos ⟨h0, h1⟩]
      exact impl_getnum_l0 l hb at_ (by omega) hl (by omega) 5 0 0 k (by omega) (by omega) (by omega) (by omega)
    · rw [if_neg (by simp; omega), if_neg (by omega)]
  · rw [if_neg h0, if_neg (by omega)]
    rfl

theorem impl_putnum_l0 : ∀ (d k : Nat) (n : Int) (acc : List Int), 0 ≤ n → n < 128 ^ (d + 1) → d < k → n ≤ 9223372036854775807 → acc.length + d < 140737488355327 → impl_PutNum.l0 k n acc = some (acc ++ numEnc d n) := by
  intro d
  induction d with
  | zero =>
    intro k n acc h0 h1 hk hn hl
    obtain ⟨k, rfl⟩ : ∃ m, k = m + 1 := ⟨k - 1, by omega⟩
    simp only [impl_PutNum.l0, numEnc]; rw [if_neg (by omega), if_pos (by omega), show n % 256 = n by omega]
  | succ d ih =>
    intro k n acc h0 h1 hk hn hl
    obtain ⟨k, rfl⟩ : ∃ m, k = m + 1 := ⟨k - 1, by omega⟩
    simp only [impl_PutNum.l0, numEnc]
    by_cases hb : n > 127
    · rw [if_pos hb, if_pos (by omega : acc.length < 140737488355328), if_pos hb]
      have hd : wrap64 (Int.tdiv n 128) = n / 128 := by
        rw [Int.tdiv_eq_ediv_of_nonneg h0]
        exact w64 (by omega) (by omega)
      have hm : (wrap64 ((Int.tmod n 128) + 128)) % 256 = n % 128 + 128 := by
        rw [Int.tmod_eq_emod_of_nonneg h0, w64 (by omega) (by omega)]
        omega
      rw [hd, hm, ih k (n / 128) (acc ++ [n % 128 + 128]) (by omega) (by
        have : (128 : Int) ^ (d + 1 + 1) = 128 ^ (d + 1) * 128 := Int.pow_succ ..
        omega) (by omega) (by omega) (by simp; omega)]
      simp
    · rw [if_neg hb, if_pos (by omega), if_neg hb, show n % 256 = n by omega]

theorem impl_putnum (a0 : Int) (k : Nat) (hk : 20 < k) : impl_PutNum.f k a0 = some (putNum a0) := by
  unfold impl_PutNum.f putNum zig
  by_cases hin : -2000000000 ≤ a0 ∧ a0 ≤ 2000000000
  · have hsp : impl_within.f a0 (-2000000000) 2000000000 = some true := by
      unfold impl_within.f; rw [if_pos hin.1]; simp [hin.2]
    simp only [Option.bind_some, hsp, if_true]
    rw [if_pos hin]
    obtain ⟨k, rfl⟩ : ∃ m, k = m + 1 := ⟨k - 1, by omega⟩
    by_cases hneg : a0 < 0
    · rw [if_pos hneg, if_pos hneg, w64 (x := (-2) * a0) (by omega) (by omega), w64 (by omega) (by omega)]
      simp only [impl_PutNum.j0]
      rw [impl_putnum_l0 4 k (-2 * a0 - 1) [] (by omega) (by omega) (by omega) (by omega) (by simp)]
      rfl
    · rw [if_neg hneg, if_neg hneg, w64 (x := 2 * a0) (by omega) (by omega)]
      simp only [impl_PutNum.j0]
      rw [impl_putnum_l0 4 k (2 * a0) [] (by omega) (by omega) (by omega) (by omega) (by simp)]
      rfl
  · have hsp : impl_within.f a0 (-2000000000) 2000000000 = some false := by
      unfold impl_within.f
      split
      · simp; omega
      · rfl
    simp only [Option.bind_some, hsp]
    rw [if_neg hin]
    rfl

theorem and255 (x : Int) : 0 ≤ Go.bits .and .i64 x 255 ∧ Go.bits .and .i64 x 255 ≤ 255 := by
  have h : (BitVec.ofInt 64 x).toNat &&& 255 ≤ 255 := Nat.and_le_right
  have e : Go.bits .and .i64 x 255 = IntKind.i64.wrap (((BitVec.ofInt 64 x).toNat &&& 255 : Nat) : Int) := by
    simp only [Go.bits, BitVec.toNat_and]
    rfl
  rw [e, IntKind.wrap_i64]
  omega
/-- Where a cursor over drawn bytes may stand. -/
def Cur (b : List Int) (i : Int) : Prop := 0 ≤ i ∧ i ≤ b.length ∧ b.length ≤ 1048576
theorem byte_ok (b : List Int) (i h : Int) (hc : Cur b i) : ∃ x i' h' : Int, spec_l1Byte.f b i h = some (x, i', h') ∧ 0 ≤ x ∧ x ≤ 255 ∧ Cur b i' := by
  obtain ⟨h0, h1, h2⟩ := hc
  unfold spec_l1Byte.f
  by_cases c : i < b.length
  · rw [if_pos c, if_pos h0, w64 (x := i + 1) (by omega) (by omega)]
    exact ⟨_, _, _, rfl, (and255 _).1, (and255 _).2, by omega, by omega, h2⟩
  · rw [if_neg c]
    exact ⟨_, _, _, rfl, (and255 _).1, (and255 _).2, h0, h1, h2⟩
theorem below_ok (b : List Int) (i h n : Int) (hc : Cur b i) : ∃ x i' h' : Int, spec_l1Below.f b i h n = some (x, i', h') ∧ 0 ≤ x ∧ (0 < n → x < n) ∧ Cur b i' := by
  unfold spec_l1Below.f
  by_cases c : n ≤ 0
  · exact ⟨0, i, h, by rw [if_pos c], by omega, by omega, hc⟩
  · rw [if_neg c]
    obtain ⟨x, i1, h1, e1, a1, b1, c1⟩ := byte_ok b i h hc
    by_cases c2 : n ≤ 256
    · rw [if_pos c2, e1]
      simp only [Option.bind_some]
      rw [if_neg (by omega)]
      exact ⟨_, _, _, rfl, Int.tmod_nonneg _ a1, fun hn => Int.tmod_lt_of_pos _ hn, c1⟩
    · rw [if_neg c2, e1]
      obtain ⟨y, i2, h2, e2, a2, b2, c3⟩ := byte_ok b i1 h1 c1
      obtain ⟨z, i3, h3, e3, a3, b3, c4⟩ := byte_ok b i2 h2 c3
      obtain ⟨w, i4, h4, e4, a4, b4, c5⟩ := byte_ok b i3 h3 c4
      simp only [Option.bind_some, e2, e3, e4]
      rw [if_neg (by omega), w64 (x := x * 16777216) (by omega) (by omega), w64 (x := y * 65536) (by omega) (by omega), w64 (x := z * 256) (by omega) (by omega), w64 (x := x * 16777216 + y * 65536) (by omega) (by omega), w64 (x := x * 16777216 + y * 65536 + z * 256) (by omega) (by omega), w64 (x := x * 16777216 + y * 65536 + z * 256 + w) (by omega) (by omega)]
      exact ⟨_, _, _, rfl, Int.tmod_nonneg _ (by omega), fun hn => Int.tmod_lt_of_pos _ hn, c5⟩
theorem pick_ok (b : List Int) (i h : Int) (l : List Int) (hl : 0 < l.length) (hc : Cur b i) : ∃ x i' h' : Int, spec_l1PickInt.f b i h l = some (x, i', h') ∧ x ∈ l ∧ Cur b i' := by
  obtain ⟨x, i1, h1, e, a1, a2, c⟩ := below_ok b i h l.length hc
  have := a2 (by omega)
  refine ⟨rd l x, i1, h1, ?_, ?_, c⟩
  · unfold spec_l1PickInt.f
    rw [e]
    simp only [Option.bind_some]
    rw [if_pos a1, if_pos this]
  · unfold rd
    rw [List.getD_eq_getElem?_getD, List.getElem?_eq_getElem (by omega)]
    exact List.getElem_mem _

theorem new_l0 (b : List Int) (hb : b.length ≤ 1048576) : ∀ (d : Nat) (h i : Int), 0 ≤ i → i ≤ b.length → (b.length : Int) - i = d → ∃ h', Ev (fun k => spec_l1New.l0 k b h i) (b, 0, h') := by
  intro d
  induction d with
  | zero =>
    intro h i h0 h1 hd
    exact ⟨h, ev_step (fun k => by simp only [spec_l1New.l0]; exact rfl) (ev_neg (by omega) (ev_some _))⟩
  | succ d ih =>
    intro h i h0 h1 hd
    have wi : wrap64 (i + 1) = i + 1 := w64 (by omega) (by omega)
    by_cases c : i < 4000
    · obtain ⟨h', e⟩ := ih (Go.bits .and .i64 (wrap64 ((wrap64 ((wrap64 (h * 131)) + (wrap64 (rd b i)))) + 7)) 1073741823) (i + 1) (by omega) (by omega) (by omega)
      refine ⟨h', ev_step (fun k => by simp only [spec_l1New.l0, wi]; exact rfl) ?_⟩
      exact ev_pos (by omega) (ev_pos c (ev_pos h0 e))
    · refine ⟨h, ev_step (fun k => by simp only [spec_l1New.l0, wi]; exact rfl) ?_⟩
      exact ev_pos (by omega) (ev_neg c (ev_some _))
theorem new_ok (b : List Int) (hb : b.length ≤ 1048576) : ∃ h, Ev (fun k => spec_l1New.f k b) (b, 0, h) ∧ Cur b 0 := by
  obtain ⟨h, e⟩ := new_l0 b hb b.length (wrap64 (18665 + (b.length : Int))) 0 (by omega) (by omega) (by omega)
  exact ⟨h, by unfold spec_l1New.f; exact e, by omega, by omega, hb⟩

def unzig (N : Int) : Int := if N % 2 = 1 then -(N / 2) - 1 else N / 2
def fin (N e : Int) : Int × Int × Bool := if -2000000000 ≤ unzig N ∧ unzig N ≤ 2000000000 then (unzig N, e, true) else (0, 0, false)
theorem zig_unzig (N : Int) (h : 0 ≤ N) : zig (unzig N) = N := by
  unfold zig unzig
  by_cases c : N % 2 = 1
  · rw [if_pos c, if_pos (by omega)]; omega
  · rw [if_neg c, if_neg (by omega)]; omega
theorem unzig_zig (x : Int) : unzig (zig x) = x := by
  unfold zig unzig
  by_cases c : x < 0
  · rw [if_pos c, if_pos (by omega)]; omega
  · rw [if_neg c, if_neg (by omega)]; omega
theorem rd_mid (p q : List Int) (c : Int) (i : Nat) (h : p.length = i) : rd (p ++ c :: q) (0 + (i : Int)) = c := by
  unfold rd
  rw [show (0 + (i : Int)).toNat = i by omega, List.getD_eq_getElem?_getD, List.getElem?_append_right (by omega), h, Nat.sub_self]
  rfl
theorem dec_last (L : List Int) (c acc : Int) (i r : Nat) (hr : rd L (0 + (i : Int)) = c) (hl : i < L.length) (h0 : 0 ≤ c) (h1 : c ≤ 127) (hi : 0 < i → 0 < c) : dec L 0 (r + 1) i acc = fin (acc + c * 128 ^ i) (i + 1) := by
  simp only [dec]
  rw [if_pos (by omega), hr, if_neg (by omega), show c % 128 = c by omega]
  show (if (c = 0 ∧ 0 < i) ∨ ¬ (-2000000000 ≤ unzig (acc + c * 128 ^ i) ∧ unzig (acc + c * 128 ^ i) ≤ 2000000000) then (0, 0, false) else (unzig (acc + c * 128 ^ i), 0 + (i : Int) + 1, true)) = _
  unfold fin
  by_cases h : -2000000000 ≤ unzig (acc + c * 128 ^ i) ∧ unzig (acc + c * 128 ^ i) ≤ 2000000000
  · rw [if_neg (by rintro (⟨a, b⟩ | b) <;> omega), if_pos h, Int.zero_add]
  · rw [if_pos (.inr h), if_neg h]
theorem dec_enc (d : Nat) : ∀ (i r : Nat) (acc n : Int) (pre post : List Int), pre.length = i → d + 1 ≤ r → 0 ≤ n → n < 128 ^ (d + 1) → (0 < i → 0 < n) → dec (pre ++ (numEnc d n ++ post)) 0 r i acc = fin (acc + n * 128 ^ i) ((i : Int) + (numEnc d n).length) := by
  induction d with
  | zero =>
    intro i r acc n pre post hp hr h0 h1 hi
    obtain ⟨r, rfl⟩ : ∃ m, r = m + 1 := ⟨r - 1, by omega⟩
    exact dec_last _ n acc i r (rd_mid pre post n i hp) (by simp [numEnc]; omega) h0 (by omega) hi
  | succ d ih =>
    intro i r acc n pre post hp hr h0 h1 hi
    obtain ⟨r, rfl⟩ : ∃ m, r = m + 1 := ⟨r - 1, by omega⟩
    by_cases hn : n > 127
    · have he : numEnc (d + 1) n = (n % 128 + 128) :: numEnc d (n / 128) := by simp only [numEnc]; rw [if_pos hn]
      rw [he]
      have hsucc : (128 : Int) ^ (i + 1) = 128 ^ i * 128 := Int.pow_succ ..
      have hs2 : (128 : Int) ^ (d + 1 + 1) = 128 ^ (d + 1) * 128 := Int.pow_succ ..
      have hl : (i : Int) < ((pre ++ (((n % 128 + 128) :: numEnc d (n / 128)) ++ post)).length : Int) := by simp; omega
      have hv : dec (pre ++ (((n % 128 + 128) :: numEnc d (n / 128)) ++ post)) 0 (r + 1) i acc = dec (pre ++ (((n % 128 + 128) :: numEnc d (n / 128)) ++ post)) 0 r (i + 1) (acc + n % 128 * 128 ^ i) := by
        have hrd : rd (pre ++ (((n % 128 + 128) :: numEnc d (n / 128)) ++ post)) (0 + (i : Int)) = n % 128 + 128 := rd_mid pre (numEnc d (n / 128) ++ post) _ i hp
        simp only [dec]
        rw [if_pos (by omega), hrd, if_pos (by omega), show (n % 128 + 128) % 128 = n % 128 by omega]
      rw [hv]
      have h := ih (i + 1) r (acc + n % 128 * 128 ^ i) (n / 128) (pre ++ [n % 128 + 128]) post (by simp; omega) (by omega) (by omega) (by omega) (by omega)
      rw [List.append_assoc] at h
      have hN : acc + n % 128 * 128 ^ i + n / 128 * 128 ^ (i + 1) = acc + n * 128 ^ i := by
        rw [hsucc]
        have hq : n = n % 128 + 128 * (n / 128) := by omega
        generalize n % 128 = a at *
        generalize n / 128 = b at *
        rw [hq, Int.add_mul, show b * ((128 : Int) ^ i * 128) = 128 * b * 128 ^ i by rw [Int.mul_comm (128 ^ i) 128, ← Int.mul_assoc, Int.mul_comm b 128]]
        omega
      rw [hN] at h
      refine Eq.trans ?_ (h.trans ?_)
      · rfl
      · congr 1
        simp only [List.length_cons]
        omega
    · have he : numEnc (d + 1) n = [n] := by simp only [numEnc]; rw [if_neg hn]
      rw [he]
      exact dec_last _ n acc i r (rd_mid pre post n i hp) (by simp; omega) h0 (by omega) hi
theorem get_put (x t : Int) (h : -2000000000 ≤ x ∧ x ≤ 2000000000) : getNum (putNum x ++ [t]) 0 = (x, ((putNum x).length : Int), true) := by
  have hz : 0 ≤ zig x ∧ zig x ≤ 4000000000 := by unfold zig; split <;> omega
  have hp : putNum x = numEnc 4 (zig x) := by unfold putNum; rw [if_pos h]
  have hl := numEnc_len 4 (zig x)
  unfold getNum
  rw [hp, if_pos (by simp <;> omega)]
  have hd := dec_enc 4 0 5 0 (zig x) [] [t] rfl (by omega) hz.1 (by have : (128 : Int) ^ (4 + 1) = 34359738368 := by decide
                                                                    omega) (by omega)
  have hf : fin (0 + zig x * 128 ^ 0) (((0 : Nat) : Int) + ((numEnc 4 (zig x)).length : Int)) = (x, ((numEnc 4 (zig x)).length : Int), true) := by
    rw [show (0 : Int) + zig x * 128 ^ 0 = zig x by simp]
    unfold fin
    rw [unzig_zig, if_pos h]
    simp
  exact hd.trans hf
theorem dec_inv (l : List Int) (hb : isByte l) (at_ : Int) (h0 : 0 ≤ at_) : ∀ (r i : Nat) (n z e : Int), 0 ≤ n → dec l at_ r i n = (z, e, true) → ∃ m : Int, 0 ≤ m ∧ (0 < i → 0 < m) ∧ z = unzig (n + m * 128 ^ i) ∧ -2000000000 ≤ z ∧ z ≤ 2000000000 ∧ e ≤ l.length ∧ l.drop (at_ + i).toNat = numEnc (r - 1) m ++ l.drop e.toNat ∧ e = at_ + i + (numEnc (r - 1) m).length := by
  intro r
  induction r with
  | zero => intro i n z e hn h; simp [dec] at h
  | succ r ih =>
    intro i n z e hn h
    simp only [dec] at h
    by_cases hlt : at_ + (i : Int) < l.length
    · rw [if_pos hlt] at h
      obtain ⟨hc0, hc1⟩ := isByte_rd hb (at_ + i)
      have hdrop : l.drop (at_ + i).toNat = rd l (at_ + i) :: l.drop (at_ + (i + 1 : Nat)).toNat := by
        rw [List.drop_eq_getElem_cons (by omega)]
        congr 1
        · unfold rd
          rw [List.getD_eq_getElem?_getD, List.getElem?_eq_getElem (by omega)]
          rfl
        · congr 1
          omega
      rw [hdrop]
      generalize rd l (at_ + i) = c at *
      by_cases hc : c > 127
      · rw [if_pos hc] at h
        have hm0 : 0 ≤ c % 128 * (128 : Int) ^ i := Int.mul_nonneg (by omega) (Int.pow_nonneg (by omega))
        obtain ⟨m, a1, a2, a3, a4, a5, a6, a7, a8⟩ := ih (i + 1) _ z e (by omega) h
        have hm := a2 (by omega)
        have hsucc : (128 : Int) ^ (i + 1) = 128 ^ i * 128 := Int.pow_succ ..
        cases r with
        | zero => simp [dec] at h
        | succ r =>
          have he : numEnc (r + 1) (c % 128 + 128 * m) = c :: numEnc r m := by
            simp only [numEnc]
            rw [if_pos (by omega), show (c % 128 + 128 * m) % 128 + 128 = c by omega, show (c % 128 + 128 * m) / 128 = m by omega]
          refine ⟨c % 128 + 128 * m, by omega, by omega, ?_, a4, a5, a6, ?_, ?_⟩
          · rw [a3]
            congr 1
            rw [hsucc, Int.add_mul, show m * ((128 : Int) ^ i * 128) = 128 * m * 128 ^ i by rw [Int.mul_comm (128 ^ i) 128, ← Int.mul_assoc, Int.mul_comm m 128]]
            omega
          · show _ = numEnc (r + 1) _ ++ _
            rw [he, a7]
            rfl
          · show _ = _ + ((numEnc (r + 1) _).length : Int)
            rw [he, a8]
            simp only [List.length_cons, Nat.add_sub_cancel]
            omega
      · rw [if_neg hc] at h
        have hcm : c % 128 = c := by omega
        rw [hcm] at h
        have h' : (if (c = 0 ∧ 0 < i) ∨ ¬ (-2000000000 ≤ unzig (n + c * 128 ^ i) ∧ unzig (n + c * 128 ^ i) ≤ 2000000000) then ((0 : Int), (0 : Int), false) else (unzig (n + c * 128 ^ i), at_ + (i : Int) + 1, true)) = (z, e, true) := h
        by_cases hx : (c = 0 ∧ 0 < i) ∨ ¬ (-2000000000 ≤ unzig (n + c * 128 ^ i) ∧ unzig (n + c * 128 ^ i) ≤ 2000000000)
        · rw [if_pos hx] at h'; cases h'
        · rw [if_neg hx] at h'
          cases h'
          have hx1 : ¬ (c = 0 ∧ 0 < i) := fun q => hx (.inl q)
          have hx2 : -2000000000 ≤ unzig (n + c * 128 ^ i) ∧ unzig (n + c * 128 ^ i) ≤ 2000000000 := Classical.byContradiction fun q => hx (.inr q)
          have he : numEnc r c = [c] := by
            cases r with
            | zero => rfl
            | succ r => simp only [numEnc]; rw [if_neg hc]
          refine ⟨c, hc0, fun hi => by omega, rfl, hx2.1, hx2.2, by omega, ?_, ?_⟩
          · show _ = numEnc r c ++ _
            rw [he]
            show _ = c :: _
            congr 2
            omega
          · show _ = _ + ((numEnc r c).length : Int)
            rw [he]
            rfl
    · rw [if_neg hlt] at h; cases h
theorem dec_false (l : List Int) (at_ : Int) : ∀ (r i : Nat) (n z e : Int), dec l at_ r i n = (z, e, false) → z = 0 ∧ e = 0 := by
  intro r
  induction r with
  | zero => intro i n z e h; simp only [dec] at h; cases h; exact ⟨rfl, rfl⟩
  | succ r ih =>
    intro i n z e h
    simp only [dec] at h
    by_cases hlt : at_ + (i : Int) < l.length
    · rw [if_pos hlt] at h
      by_cases hc : rd l (at_ + (i : Int)) > 127
      · rw [if_pos hc] at h; exact ih _ _ z e h
      · rw [if_neg hc] at h
        by_cases hx : (rd l (at_ + (i : Int)) = 0 ∧ 0 < i) ∨ ¬ (-2000000000 ≤ unzig (n + rd l (at_ + (i : Int)) % 128 * 128 ^ i) ∧ unzig (n + rd l (at_ + (i : Int)) % 128 * 128 ^ i) ≤ 2000000000)
        · have h' : (if (rd l (at_ + (i : Int)) = 0 ∧ 0 < i) ∨ ¬ (-2000000000 ≤ unzig (n + rd l (at_ + (i : Int)) % 128 * 128 ^ i) ∧ unzig (n + rd l (at_ + (i : Int)) % 128 * 128 ^ i) ≤ 2000000000) then ((0 : Int), (0 : Int), false) else (unzig (n + rd l (at_ + (i : Int)) % 128 * 128 ^ i), at_ + (i : Int) + 1, true)) = (z, e, false) := h
          rw [if_pos hx] at h'; cases h'; exact ⟨rfl, rfl⟩
        · have h' : (if (rd l (at_ + (i : Int)) = 0 ∧ 0 < i) ∨ ¬ (-2000000000 ≤ unzig (n + rd l (at_ + (i : Int)) % 128 * 128 ^ i) ∧ unzig (n + rd l (at_ + (i : Int)) % 128 * 128 ^ i) ≤ 2000000000) then ((0 : Int), (0 : Int), false) else (unzig (n + rd l (at_ + (i : Int)) % 128 * 128 ^ i), at_ + (i : Int) + 1, true)) = (z, e, false) := h
          rw [if_neg hx] at h'; exact absurd (congrArg (fun q => q.2.2) h') (by simp)
    · rw [if_neg hlt] at h; cases h; exact ⟨rfl, rfl⟩
theorem put_get (l : List Int) (hb : isByte l) (at_ z e : Int) (h : getNum l at_ = (z, e, true)) : 0 ≤ at_ ∧ at_ ≤ e ∧ e ≤ l.length ∧ (l.take e.toNat).drop at_.toNat = putNum z := by
  unfold getNum at h
  by_cases c : 0 ≤ at_ ∧ at_ < l.length
  · rw [if_pos c] at h
    obtain ⟨m, a1, a2, a3, a4, a5, a6, a7, a8⟩ := dec_inv l hb at_ c.1 5 0 0 z e (by omega) h
    have hm : z = unzig m := by rw [a3]; congr 1; simp
    have hz : zig z = m := by rw [hm]; exact zig_unzig m a1
    have hp : putNum z = numEnc 4 m := by unfold putNum; rw [if_pos ⟨a4, a5⟩, hz]
    have a7' : l.drop at_.toNat = numEnc 4 m ++ l.drop e.toNat := by
      have := a7
      rw [show at_ + ((0 : Nat) : Int) = at_ by omega] at this
      exact this
    have a8' : e = at_ + ((numEnc 4 m).length : Int) := by rw [a8]; simp
    refine ⟨c.1, by omega, a6, ?_⟩
    rw [List.drop_take, a7', hp, show e.toNat - at_.toNat = (numEnc 4 m).length by omega]
    simp
  · rw [if_neg c] at h; cases h
theorem get_none (l : List Int) (at_ z e : Int) (h : getNum l at_ = (z, e, false)) : z = 0 ∧ e = 0 := by
  unfold getNum at h
  split at h
  · exact dec_false l at_ 5 0 0 z e h
  · cases h; exact ⟨rfl, rfl⟩
theorem numEnc_byte : ∀ (d : Nat) (n : Int), 0 ≤ n → n < 128 ^ (d + 1) → isByte (numEnc d n) := by
  intro d
  induction d with
  | zero => intro n h0 h1 x hx; simp [numEnc] at hx; omega
  | succ d ih =>
    intro n h0 h1 x hx
    have hs2 : (128 : Int) ^ (d + 1 + 1) = 128 ^ (d + 1) * 128 := Int.pow_succ ..
    simp only [numEnc] at hx
    by_cases hn : n > 127
    · rw [if_pos hn] at hx
      rcases List.mem_cons.1 hx with rfl | hx
      · omega
      · exact ih (n / 128) (by omega) (by omega) x hx
    · rw [if_neg hn] at hx
      rcases List.mem_cons.1 hx with rfl | hx
      · omega
      · cases hx
theorem putNum_byte (x : Int) : isByte (putNum x) := by
  unfold putNum
  by_cases h : -2000000000 ≤ x ∧ x ≤ 2000000000
  · rw [if_pos h]
    have hz : 0 ≤ zig x ∧ zig x ≤ 4000000000 := by unfold zig; split <;> omega
    exact numEnc_byte 4 (zig x) hz.1 (by have : (128 : Int) ^ (4 + 1) = 34359738368 := by decide
                                         omega)
  · rw [if_neg h]; intro y hy; cases hy
theorem isByte_app {p q : List Int} (hp : isByte p) (hq : isByte q) : isByte (p ++ q) := fun x hx => by
  rcases List.mem_append.1 hx with h | h
  · exact hp x h
  · exact hq x h
theorem drawput (b : List Int) (hb : b.length ≤ 1048576) : ∃ x, Ev (fun k => spec_DrawPutNum.f k b) x := by
  obtain ⟨h0, e0, c0⟩ := new_ok b hb
  obtain ⟨x, i1, h1, e1, a1, b1, c1⟩ := below_ok b 0 h0 9999 c0
  obtain ⟨y, i2, h2, e2, a2, c2⟩ := pick_ok b i1 h1 ([0, 1, (-1), 63, 64, (-64), (-65), 150, 2000000000, 2000000001, (-2000000000), (-2000000001), x] : List Int) (by simp) c1
  refine ⟨y, ?_⟩
  unfold spec_DrawPutNum.f
  refine ev_bind e0 ?_
  refine ev_bind (ev_all (fun k => e1)) ?_
  exact ev_bind (ev_all (fun k => e2)) (ev_some _)
theorem drawtail (b : List Int) (i h : Int) (hc : Cur b i) (y : List Int) (hy : y.length ≤ 50) : ∃ at_ : Int, ((spec_l1Below.f b i h (wrap64 ((y.length : Int) + 1))).bind fun bt211 => ((spec_l1Below.f b bt211.2.1 bt211.2.2 20).bind fun bt214 => (some (y, wrap64 (bt211.1 - (wrap64 (Int.tdiv bt214.1 19))))))) = some (y, at_) ∧ -2 ≤ at_ ∧ at_ ≤ 60 := by
  rw [w64 (x := (y.length : Int) + 1) (by omega) (by omega)]
  obtain ⟨x, i1, h1, e1, a1, b1, c1⟩ := below_ok b i h (y.length + 1) hc
  obtain ⟨z, i2, h2, e2, a2, b2, c2⟩ := below_ok b i1 h1 20 c1
  have hx := b1 (by omega)
  have hz := b2 (by omega)
  have hd : Int.tdiv z 19 = z / 19 := Int.tdiv_eq_ediv_of_nonneg a2
  refine ⟨x - z / 19, ?_, by omega, by omega⟩
  rw [e1]
  simp only [Option.bind_some]
  rw [e2]
  simp only [Option.bind_some]
  rw [hd, w64 (x := z / 19) (by omega) (by omega), w64 (x := x - z / 19) (by omega) (by omega)]
theorem drawget (b : List Int) (hb : b.length ≤ 1048576) : ∃ (raw : List Int) (at_ : Int), Ev (fun k => spec_DrawGetNum.f k b) (raw, at_) ∧ isByte raw ∧ raw.length ≤ 50 ∧ -2 ≤ at_ ∧ at_ ≤ 60 := by
  obtain ⟨h0, e0, c0⟩ := new_ok b hb
  obtain ⟨x, i1, h1, e1, a1, b1, c1⟩ := below_ok b 0 h0 300 c0
  obtain ⟨y, i2, h2, e2, a2, c2⟩ := pick_ok b i1 h1 ([5, 99999, 2000000000] : List Int) (by simp) c1
  obtain ⟨o, i3, h3, e3, a3, b3, c3⟩ := below_ok b i2 h2 8 c2
  have p1 := putNum_len (wrap64 (x - 100))
  have p2 := putNum_len y
  have q1 := putNum_byte (wrap64 (x - 100))
  have q2 := putNum_byte y
  unfold spec_DrawGetNum.f
  by_cases o0 : o = 0
  · obtain ⟨w, i4, h4, e4, a4, b4, c4⟩ := byte_ok b i3 h3 c3
    have hl : (putNum (wrap64 (x - 100)) ++ putNum y ++ [128, w % 256]).length ≤ 50 := by simp only [List.length_append, List.length_cons, List.length_nil]; omega
    obtain ⟨at_, et, t1, t2⟩ := drawtail b i4 h4 c4 (putNum (wrap64 (x - 100)) ++ putNum y ++ [128, w % 256]) hl
    refine ⟨_, at_, ?_, isByte_app (isByte_app q1 q2) (fun v hv => by simp at hv; omega), hl, t1, t2⟩
    refine ev_bind e0 ?_
    refine ev_bind (ev_all (fun k => e1)) ?_
    refine ev_bind (ev_of 20 (fun k hk => spec_putnum _ k hk)) ?_
    refine ev_bind (ev_all (fun k => e2)) ?_
    refine ev_bind (ev_of 20 (fun k hk => spec_putnum _ k hk)) ?_
    refine ev_pos (by show (putNum (wrap64 (x - 100))).length + (putNum y).length < 140737488355328; omega) ?_
    refine ev_bind (ev_some _) ?_
    refine ev_bind (ev_all (fun k => e3)) ?_
    refine ev_pos o0 ?_
    refine ev_bind (ev_all (fun k => e4)) ?_
    refine ev_bind (ev_some _) ?_
    refine ev_pos (by show (putNum (wrap64 (x - 100)) ++ putNum y).length + 2 < 140737488355328; rw [List.length_append]; omega) ?_
    refine ev_bind (ev_some _) ?_
    exact ev_all (fun k => et)
  · by_cases o1 : o = 1
    · obtain ⟨w, i4, h4, e4, a4, c4⟩ := pick_ok b i3 h3 ([7, 14, 15, 127, 128] : List Int) (by simp) c3
      obtain ⟨at_, et, t1, t2⟩ := drawtail b i4 h4 c4 [255, 255, 255, 255, w % 256, 1] (by simp)
      refine ⟨[255, 255, 255, 255, w % 256, 1], at_, ?_, fun v hv => by simp at hv; omega, by simp, t1, t2⟩
      refine ev_bind e0 ?_
      refine ev_bind (ev_all (fun k => e1)) ?_
      refine ev_bind (ev_of 20 (fun k hk => spec_putnum _ k hk)) ?_
      refine ev_bind (ev_all (fun k => e2)) ?_
      refine ev_bind (ev_of 20 (fun k hk => spec_putnum _ k hk)) ?_
      refine ev_pos (by show (putNum (wrap64 (x - 100))).length + (putNum y).length < 140737488355328; omega) ?_
      refine ev_bind (ev_some _) ?_
      refine ev_bind (ev_all (fun k => e3)) ?_
      refine ev_neg o0 ?_
      refine ev_pos o1 ?_
      refine ev_bind (ev_all (fun k => e4)) ?_
      refine ev_bind (ev_some _) ?_
      exact ev_all (fun k => et)
    · have hl : (putNum (wrap64 (x - 100)) ++ putNum y).length ≤ 50 := by simp only [List.length_append]; omega
      obtain ⟨at_, et, t1, t2⟩ := drawtail b i3 h3 c3 (putNum (wrap64 (x - 100)) ++ putNum y) hl
      refine ⟨_, at_, ?_, isByte_app q1 q2, hl, t1, t2⟩
      refine ev_bind e0 ?_
      refine ev_bind (ev_all (fun k => e1)) ?_
      refine ev_bind (ev_of 20 (fun k hk => spec_putnum _ k hk)) ?_
      refine ev_bind (ev_all (fun k => e2)) ?_
      refine ev_bind (ev_of 20 (fun k hk => spec_putnum _ k hk)) ?_
      refine ev_pos (by show (putNum (wrap64 (x - 100))).length + (putNum y).length < 140737488355328; omega) ?_
      refine ev_bind (ev_some _) ?_
      refine ev_bind (ev_all (fun k => e3)) ?_
      refine ev_neg o0 ?_
      refine ev_neg o1 ?_
      exact ev_all (fun k => et)
theorem law_of {l : List Int} (h : Ev (fun k => laws_FnNumBytes.f k l) true) : ∃ k, laws_FnNumBytes.f k l = some true := by
  obtain ⟨k, hk⟩ := h
  exact ⟨k, hk k (Nat.le_refl _)⟩
theorem back (b : List Int) (hb : b.length ≤ 1048576) : Ev (fun k => laws_FnNumBytes.j0 k b false) true := by
  obtain ⟨raw, at_, ed, hr, hl, t1, t2⟩ := drawget b hb
  have hi : Ev (fun k => impl_GetNum.f k raw at_) (getNum raw at_) := ev_of 60 (fun k hk => impl_getnum raw hr (by omega) at_ (by omega) (by omega) k hk)
  have hs : Ev (fun k => spec_GetNum.f k raw at_) (getNum raw at_) := ev_of 60 (fun k hk => spec_getnum raw hr (by omega) at_ (by omega) (by omega) k hk)
  have hp := put_get raw hr at_
  have hn := get_none raw at_
  generalize getNum raw at_ = v at *
  obtain ⟨z, e, f⟩ := v
  refine ev_step (fun k => by simp only [laws_FnNumBytes.j0]; exact rfl) ?_
  refine ev_neg (by decide) ?_
  refine ev_bind ed ?_
  refine ev_bind hi ?_
  refine ev_bind hs ?_
  refine ev_neg (by simp) ?_
  refine ev_pos (by rfl) ?_
  cases f with
  | true =>
    obtain ⟨g1, g2, g3, g4⟩ := hp z e rfl
    refine ev_pos (by rfl) ?_
    refine ev_bind (ev_of 20 (fun k hk => impl_putnum z k hk)) ?_
    refine ev_pos g1 ?_
    refine ev_pos g2 ?_
    refine ev_pos g3 ?_
    refine ev_eq (ev_some _) ?_
    rw [← g4]
    simp
  | false =>
    obtain ⟨g1, g2⟩ := hn z e rfl
    refine ev_neg (by simp) ?_
    exact ev_pos g1 (ev_pos g2 (ev_some _))
theorem FnNumBytes : OpnFnNumBytes.Pure := by
  intro b _
  refine law_of ?_
  unfold laws_FnNumBytes.f laws_big.f
  by_cases c : (b.length : Int) > 1048576
  · refine ev_bind (ev_some _) ?_
    exact ev_pos (by simpa using c) (ev_some _)
  refine ev_bind (ev_some _) ?_
  refine ev_neg (by simpa using c) ?_
  obtain ⟨x, ex⟩ := drawput b (by omega)
  obtain ⟨t, et⟩ : ∃ t, laws_at.f b 1 = some t := by
    unfold laws_at.f
    by_cases h : (1 : Int) < (b.length : Int)
    · exact ⟨_, by rw [if_pos h, if_pos (by omega)]⟩
    · exact ⟨_, by rw [if_neg h]⟩
  have hl := putNum_len x
  have hb := back b (by omega)
  have hbyte : isByte (putNum x ++ [t % 256]) := isByte_app (putNum_byte x) (fun v hv => by simp at hv; omega)
  have hg : Ev (fun k => impl_GetNum.f k (putNum x ++ [t % 256]) 0) (getNum (putNum x ++ [t % 256]) 0) := ev_of 60 (fun k hk => impl_getnum _ hbyte (by simp only [List.length_append, List.length_cons, List.length_nil]; omega) 0 (by omega) (by omega) k hk)
  refine ev_bind ex ?_
  refine ev_bind (ev_of 20 (fun k hk => impl_putnum x k hk)) ?_
  refine ev_bind (ev_of 20 (fun k hk => spec_putnum x k hk)) ?_
  refine ev_pos (by rfl) ?_
  refine ev_bind (f := fun _ => some []) (ev_some []) ?_
  refine ev_pos (by simp only [List.length_nil]; omega) ?_
  refine ev_bind (f := fun _ => some ([] ++ putNum x)) (ev_some _) ?_
  refine ev_bind (ev_all (fun k => et)) ?_
  refine ev_pos (by simp only [List.nil_append]; omega) ?_
  refine ev_bind (f := fun k => impl_GetNum.f k ([] ++ putNum x ++ [t % 256]) 0) hg ?_
  by_cases hn : (((putNum x).length : Nat) : Int) > 0
  · have hin : -2000000000 ≤ x ∧ x ≤ 2000000000 := by
      apply Classical.byContradiction
      intro h
      have := (putNum_nil x).2 h
      rw [this] at hn
      simp at hn
    rw [get_put x _ hin]
    refine ev_pos hn ?_
    refine ev_pos (by rfl) ?_
    refine ev_pos (by rfl) ?_
    have hv : (((putNum x).length : Int) != ((putNum x).length : Int)) = false := by simp
    simp only [hv]
    exact hb
  · exact ev_neg hn hb

end Go.Proofs.Ytomeiaphaimjoaa.Pure
