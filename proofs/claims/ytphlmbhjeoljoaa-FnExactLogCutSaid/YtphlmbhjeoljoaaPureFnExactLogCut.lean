/- LogCut of the program and of the reference give the same log of every log and number, in memory of its own, and leave it alone: no conditions. -/
import Derived.Test.YtphlmbhjeoljoaaOpnFnExactLogCut
import Derived.Test.YtphlmbhjeoljoaaPFnExactLogCutx
namespace Go.Proofs.Ytphlmbhjeoljoaa.Pure
open Go.RowKit Go.Proofs.Ytphlmbhjeoljoaa.PFnExactLogCut Go.Proofs.YtphlmbhjeoljoaaW.PrintWords Go.Proofs.YtphlmbhjeoljoaaW.PrintLast Go.Proofs.YtphlmbhjeoljoaaW.PrintMore Go.Proofs.Ytphlmbhjeoljoaa.OpnFnExactLogCut

theorem w64 {x : Int} (h0 : -9223372036854775808 ≤ x) (h1 : x ≤ 9223372036854775807) : wrap64 x = x := by
  unfold wrap64
  omega

theorem wf_i64 {a : Int} (h : (Lit.int .i64 a).wf = true) : -9223372036854775808 ≤ a ∧ a ≤ 9223372036854775807 := by
  simp [Lit.wf] at h
  have h1 : IntKind.min .i64 = -9223372036854775808 := by decide
  have h2 : IntKind.max .i64 = 9223372036854775807 := by decide
  omega


/-- From lo to hi. -/
def inR (a lo hi : Int) : Bool := decide (lo ≤ a) && decide (a ≤ hi)

theorem spec_in (a lo hi : Int) : spec_l1In.f a lo hi = some (inR a lo hi) := by
  unfold spec_l1In.f inR
  by_cases h : a ≥ lo
  · rw [if_pos h]; simp [h]
  · rw [if_neg h]; simp; omega


def cvEntry (x : S185) : S129 := (⟨x.f0, (⟨x.f1.f0, x.f1.f1, (⟨x.f1.f2.f0, x.f1.f2.f1, x.f1.f2.f2⟩ : S67)⟩ : S127)⟩ : S129)

theorem toEntryS_l0 (d : Nat) : ∀ (k : Nat) (x : List S185) (y : List S129) (i : Int), 0 ≤ i → i ≤ x.length → y.length = x.length → (x.length : Int) - i = d → d < k → x.length ≤ 140737488355328 → (∀ j : Nat, (j : Int) < i → y[j]? = (x.map cvEntry)[j]?) → laws_toEntryS.l0 k x y i = some (x.map cvEntry) := by
  induction d with
  | zero =>
    intro k x y i h0 h1 hy hd hk hx h
    obtain ⟨k, rfl⟩ : ∃ m, k = m + 1 := ⟨k - 1, by omega⟩
    simp only [laws_toEntryS.l0]; rw [if_neg (by omega)]
    congr 1
    apply List.ext_getElem?
    intro j
    by_cases hj : j < x.length
    · exact h j (by omega)
    · rw [List.getElem?_eq_none (by omega), List.getElem?_eq_none (by simp; omega)]
  | succ d ih =>
    intro k x y i h0 h1 hy hd hk hx h
    obtain ⟨k, rfl⟩ : ∃ m, k = m + 1 := ⟨k - 1, by omega⟩
    simp only [laws_toEntryS.l0]
    rw [if_pos (by omega), if_pos h0]
    simp only [laws_toEntry.f, laws_toCmd.f, laws_toMsg.f, Option.bind_some]
    rw [if_pos (by omega), w64 (by omega) (by omega)]
    refine ih k x _ (i + 1) (by omega) (by omega) (by simpa using hy) (by omega) (by omega) hx (fun j hj => ?_)
    by_cases he : (j : Int) = i
    · have hj2 : (i : Int).toNat = j := by omega
      rw [hj2, List.getElem?_set_self (by omega), List.getElem?_map, List.getElem?_eq_getElem (by omega)]
      simp only [Option.map_some, rd_T185, hj2, List.getD_eq_getElem?_getD]
      rw [List.getElem?_eq_getElem (by omega)]
      rfl
    · rw [← h j (by omega), List.getElem?_set_ne (by omega)]

theorem toEntryS_all (x : List S185) (hx : x.length ≤ 1048576) (k : Nat) (hk : x.length < k) : laws_toEntryS.f k x = some (x.map cvEntry) := by
  unfold laws_toEntryS.f
  rw [if_pos (by omega), if_pos (by omega)]
  exact toEntryS_l0 x.length k x _ 0 (by omega) (by omega) (by simp) (by omega) (by omega) (by omega) (fun j hj => by omega)

theorem eqEntryS_l0 (d : Nat) : ∀ (k : Nat) (x : List S129) (i : Int), 0 ≤ i → i ≤ x.length → (x.length : Int) - i = d → d < k → x.length ≤ 140737488355328 → laws_eqEntryS.l0 k x x i = some true := by
  induction d with
  | zero =>
    intro k x i h0 h1 hd hk hx
    obtain ⟨k, rfl⟩ : ∃ m, k = m + 1 := ⟨k - 1, by omega⟩
    simp only [laws_eqEntryS.l0]; rw [if_neg (by omega)]
  | succ d ih =>
    intro k x i h0 h1 hd hk hx
    obtain ⟨k, rfl⟩ : ∃ m, k = m + 1 := ⟨k - 1, by omega⟩
    simp only [laws_eqEntryS.l0]
    rw [if_pos (by omega), if_pos h0, if_pos (by omega)]
    simp only [laws_eqEntry.f, laws_eqCmd.f, laws_eqMsg.f, Option.bind_some, if_true]
    rw [w64 (by omega) (by omega)]
    exact ih k x (i + 1) (by omega) (by omega) (by omega) (by omega) hx

theorem eqEntryS_self (x : List S129) (hx : x.length ≤ 140737488355328) (k : Nat) (hk : x.length < k) : laws_eqEntryS.f k x x = some true := by
  unfold laws_eqEntryS.f
  rw [if_pos rfl]
  exact eqEntryS_l0 x.length k x 0 (by omega) (by omega) (by omega) (by omega) hx

theorem toLog_all (b t : Int) (l : List S185) (hl : l.length ≤ 1048576) (k : Nat) (hk : l.length < k) : laws_toLog.f k b t l = some (b, t, l.map cvEntry) := by
  unfold laws_toLog.f
  rw [toEntryS_all l hl k hk]
  rfl

theorem eqLog_self (b t : Int) (l : List S129) (hl : l.length ≤ 140737488355328) (k : Nat) (hk : l.length < k) : laws_eqLog.f k b t l b t l = some true := by
  unfold laws_eqLog.f
  simp only [if_true]
  rw [eqEntryS_self l hl k hk]
  rfl

theorem szLog_all (b t : Int) (l : List S185) (hl : l.length * 48 ≤ 140737488351232) : laws_szLog.f b t l 1048576 = some (if (1048576 : Int) - l.length < 0 then (-1 : Int) else (1048576 : Int) - l.length) := by
  unfold laws_szLog.f laws_szEntryS.f
  rw [w64 (by omega) (by omega)]
  by_cases h : (1048576 : Int) - l.length < 0
  · rw [if_pos h, if_pos h]; rfl
  · rw [if_neg h, if_neg h]
    simp only [Option.bind_some]
    rw [if_neg h]

/-- The element that is marked with so much. -/
def markEntry (m : Int) : S129 := (⟨m, (⟨m + 1, m + 1 + 1, (⟨m + 1 + 1 + 1, m + 1 + 1 + 1 + 1, m + 1 + 1 + 1 + 1 + 1⟩ : S67)⟩ : S127)⟩ : S129)

theorem rd_setEntry (x : List S129) (i : Int) (h0 : 0 ≤ i) (h1 : i < x.length) (e : S129) : rd_T129 (x.set (i : Int).toNat e) i = e := by
  unfold rd_T129
  rw [List.getD_eq_getElem?_getD, List.getElem?_set_self (by omega)]
  rfl

theorem markEntryS_l0 (d : Nat) : ∀ (k : Nat) (x : List S129) (a i : Int), 0 ≤ i → i ≤ x.length → (x.length : Int) - i = d → d < k → x.length ≤ 140737488355328 → 0 ≤ a → a + 6 * d ≤ 9223372036854775800 →
    ∃ y, laws_markEntryS.l0 k x a i = some (a + 6 * d, y) ∧ y.length = x.length ∧ (∀ j : Nat, (j : Int) < i → y[j]? = x[j]?) ∧ (∀ j : Nat, i ≤ j → j < x.length → rd_T129 y j = markEntry (a + 6 * (j - i))) := by
  induction d with
  | zero =>
    intro k x a i h0 h1 hd hk hx ha hb
    obtain ⟨k, rfl⟩ : ∃ m, k = m + 1 := ⟨k - 1, by omega⟩
    refine ⟨x, ?_, rfl, fun _ _ => rfl, fun j h h' => by omega⟩
    simp only [laws_markEntryS.l0]; rw [if_neg (by omega)]; simp
  | succ d ih =>
    intro k x a i h0 h1 hd hk hx ha hb
    obtain ⟨k, rfl⟩ : ∃ m, k = m + 1 := ⟨k - 1, by omega⟩
    have hs := rd_setEntry x i h0 (by omega)
    have e1 : wrap64 (a + 1) = a + 1 := w64 (by omega) (by omega)
    have e2 : wrap64 (a + 1 + 1) = a + 1 + 1 := w64 (by omega) (by omega)
    have e3 : wrap64 (a + 1 + 1 + 1) = a + 1 + 1 + 1 := w64 (by omega) (by omega)
    have e4 : wrap64 (a + 1 + 1 + 1 + 1) = a + 1 + 1 + 1 + 1 := w64 (by omega) (by omega)
    have e5 : wrap64 (a + 1 + 1 + 1 + 1 + 1) = a + 1 + 1 + 1 + 1 + 1 := w64 (by omega) (by omega)
    have e6 : wrap64 (a + 1 + 1 + 1 + 1 + 1 + 1) = a + 1 + 1 + 1 + 1 + 1 + 1 := w64 (by omega) (by omega)
    obtain ⟨y, hy, hl, hlo, hhi⟩ := ih k (x.set (i : Int).toNat (markEntry a)) (a + 6) (i + 1) (by omega) (by simp; omega) (by simp; omega) (by omega) (by simpa using hx) (by omega) (by omega)
    refine ⟨y, ?_, by simpa using hl, fun j hj => ?_, fun j hj hj' => ?_⟩
    · simp only [laws_markEntryS.l0]
      rw [if_pos (by omega), if_pos h0]
      simp only [Option.bind_some, hs, List.set_set, e1, e2, e3, e4, e5, e6]
      rw [w64 (x := i + 1) (by omega) (by omega)]
      have hm : markEntry a = (⟨a, (⟨a + 1, a + 1 + 1, (⟨a + 1 + 1 + 1, a + 1 + 1 + 1 + 1, a + 1 + 1 + 1 + 1 + 1⟩ : S67)⟩ : S127)⟩ : S129) := by unfold markEntry; rfl
      have hz : a + 1 + 1 + 1 + 1 + 1 + 1 = a + 6 := by omega
      rw [hz]
      simp only [hm] at hy
      refine Eq.trans ?_ (hy.trans ?_)
      · first | rfl | (congr 2; simp; omega) | (simp only [Int.add_assoc]; rfl)
      · congr 2
        omega
    · rw [hlo j (by omega), List.getElem?_set_ne (by omega)]
    · by_cases he : (j : Int) = i
      · unfold rd_T129
        rw [List.getD_eq_getElem?_getD, hlo _ (by omega), show ((j : Int)).toNat = i.toNat by omega, List.getElem?_set_self (by omega)]
        simp only [Option.getD_some]
        congr 1
        omega
      · rw [hhi j (by omega) (by simpa using hj')]
        congr 1
        omega

theorem heldEntryS_l0 (d : Nat) : ∀ (k : Nat) (y : List S129) (a i : Int), 0 ≤ i → i ≤ y.length → (y.length : Int) - i = d → d < k → y.length ≤ 140737488355328 → 0 ≤ a → a + 6 * d ≤ 9223372036854775800 →
    (∀ j : Nat, i ≤ j → j < y.length → rd_T129 y j = markEntry (a + 6 * (j - i))) → laws_heldEntryS.l0 k y a i = some (a + 6 * d) := by
  induction d with
  | zero =>
    intro k y a i h0 h1 hd hk hx ha hb h
    obtain ⟨k, rfl⟩ : ∃ m, k = m + 1 := ⟨k - 1, by omega⟩
    simp only [laws_heldEntryS.l0]; rw [if_neg (by omega)]; simp
  | succ d ih =>
    intro k y a i h0 h1 hd hk hx ha hb h
    obtain ⟨k, rfl⟩ : ∃ m, k = m + 1 := ⟨k - 1, by omega⟩
    have e1 : wrap64 (a + 1) = a + 1 := w64 (by omega) (by omega)
    have e2 : wrap64 (a + 1 + 1) = a + 1 + 1 := w64 (by omega) (by omega)
    have e3 : wrap64 (a + 1 + 1 + 1) = a + 1 + 1 + 1 := w64 (by omega) (by omega)
    have e4 : wrap64 (a + 1 + 1 + 1 + 1) = a + 1 + 1 + 1 + 1 := w64 (by omega) (by omega)
    have e5 : wrap64 (a + 1 + 1 + 1 + 1 + 1) = a + 1 + 1 + 1 + 1 + 1 := w64 (by omega) (by omega)
    have e6 : wrap64 (a + 1 + 1 + 1 + 1 + 1 + 1) = a + 1 + 1 + 1 + 1 + 1 + 1 := w64 (by omega) (by omega)
    have hi := h i.toNat (by omega) (by omega)
    rw [show ((i.toNat : Nat) : Int) = i by omega, show a + 6 * (i - i) = a by omega] at hi
    have hm : markEntry a = (⟨a, (⟨a + 1, a + 1 + 1, (⟨a + 1 + 1 + 1, a + 1 + 1 + 1 + 1, a + 1 + 1 + 1 + 1 + 1⟩ : S67)⟩ : S127)⟩ : S129) := by unfold markEntry; rfl
    rw [hm] at hi
    simp only [laws_heldEntryS.l0]
    rw [if_pos (by omega), if_pos h0]
    simp only [hi, e1, e2, e3, e4, e5, e6, if_true]
    have hz : a + 1 + 1 + 1 + 1 + 1 + 1 = a + 6 := by omega
    rw [w64 (x := i + 1) (by omega) (by omega), hz]
    rw [ih k y (a + 6) (i + 1) (by omega) (by omega) (by omega) (by omega) hx (by omega) (by omega) (fun j hj hj' => by rw [h j (by omega) hj']; congr 1; omega)]
    congr 1
    omega

/-- A row is marked, and the marks hold. -/
theorem markEntryS_all (x : List S129) (hx : x.length ≤ 140737488355328) (a : Int) (ha : 0 ≤ a) (hb : a ≤ 4611686018427387904) : ∃ y : List S129, (∀ k, x.length < k → laws_markEntryS.f k x a = some (a + 6 * (x.length : Int), y)) ∧ (∀ k, x.length < k → laws_heldEntryS.f k y a = some (a + 6 * (x.length : Int))) := by
  obtain ⟨y, hy, hl, _, hhi⟩ := markEntryS_l0 x.length (x.length + 1) x a 0 (by omega) (by omega) (by omega) (by omega) hx (by omega) (by omega)
  refine ⟨y, fun k hk => ?_, fun k hk => ?_⟩
  · unfold laws_markEntryS.f
    exact at_rounds (g := fun k => laws_markEntryS.l0 k x a 0) (fun k => laws_markEntryS.mono_l k _ _ _) (by omega) hy
  · unfold laws_heldEntryS.f
    rw [heldEntryS_l0 x.length k y a 0 (by omega) (by omega) (by omega) (by omega) (by omega) (by omega) (by omega) (fun j hj hj' => by rw [hhi j hj (by omega)])]

/-- TermAt, as the document says it. -/
def termAt (b t : Int) (l : List S129) (i : Int) : Int := if i = b then t else if b < i ∧ i - b ≤ l.length then (rd_T129 l (i - b - 1)).f0 else -1

theorem wrap_u64 (n : Int) : IntKind.u64.wrap n = n % 18446744073709551616 := by simp [IntKind.wrap, IntKind.bits, IntKind.signed]

/-- Where entry number i stands; -1 where there is none. -/
def placeOf (b : Int) (l : List S129) (i : Int) : Int := if b < i ∧ i - b ≤ l.length then i - b - 1 else -1

theorem impl_placeof (b t : Int) (l : List S129) (i : Int) (hl : l.length ≤ 140737488355328) (hb : -9223372036854775808 ≤ b ∧ b ≤ 9223372036854775807) (hi : -9223372036854775808 ≤ i ∧ i ≤ 9223372036854775807) : impl_placeOf.f b t l i = some (placeOf b l i) := by
  unfold impl_placeOf.f placeOf
  by_cases h : i ≤ b
  · rw [if_pos h, if_neg (by omega)]
  · rw [if_neg h]
    have e : IntKind.u64.wrap ((IntKind.u64.wrap i) - (IntKind.u64.wrap b)) = i - b := by simp only [wrap_u64]; omega
    have e2 : IntKind.u64.wrap ((l.length : Int)) = l.length := by simp only [wrap_u64]; omega
    rw [e, e2]
    by_cases h2 : i - b > l.length
    · rw [if_pos h2, if_neg (by omega)]
    · rw [if_neg h2, if_pos (by omega), w64 (x := i - b) (by omega) (by omega), w64 (by omega) (by omega)]

/-- LogCut, as the document says it. -/
def logCut (b t : Int) (l : List S129) (i : Int) : Int × Int × List S129 := if b < i ∧ i - b ≤ l.length then (i, (rd_T129 l (i - b - 1)).f0, l.drop (i - b).toNat) else (b, t, l)
theorem logCut_len (b t : Int) (l : List S129) (i : Int) : (logCut b t l i).2.2.length ≤ l.length := by
  unfold logCut
  split
  · simp
  · simp

theorem spec_logcut (b t : Int) (l : List S129) (i : Int) (hl : l.length ≤ 1048576) (hb : -9223372036854775808 ≤ b ∧ b ≤ 9223372036854775807) (hi : -9223372036854775808 ≤ i ∧ i ≤ 9223372036854775807) : spec_LogCut.f b t l i = some (logCut b t l i) := by
  unfold spec_LogCut.f spec_l8Copy.f logCut
  simp only [Option.bind_some, List.nil_append, List.length_nil, Nat.zero_add]
  rw [if_pos (by omega)]
  simp only [Option.bind_some]
  by_cases h2 : i ≤ b
  · rw [if_pos h2, if_neg (by omega)]
  · rw [if_neg h2, spec_in]
    simp only [Option.bind_some]
    by_cases h3 : i - b ≤ l.length
    · have e0 : wrap64 (i - b) = i - b := w64 (by omega) (by omega)
      rw [e0, w64 (x := i - b - 1) (by omega) (by omega), if_pos (by simp [inR]; omega), if_pos (by omega), if_pos (by omega), if_pos (by omega), if_pos (by omega), if_pos (by simp; omega), if_pos ⟨by omega, h3⟩]
    · rw [if_neg (by unfold inR wrap64; simp; omega), if_neg (by omega)]

theorem impl_logcut (b t : Int) (l : List S129) (i : Int) (hl : l.length ≤ 1048576) (hb : -9223372036854775808 ≤ b ∧ b ≤ 9223372036854775807) (hi : -9223372036854775808 ≤ i ∧ i ≤ 9223372036854775807) : impl_LogCut.f b t l i = some (logCut b t l i) := by
  unfold impl_LogCut.f logCut
  rw [impl_placeof b t l i (by omega) hb hi]
  simp only [Option.bind_some, placeOf]
  by_cases h2 : b < i ∧ i - b ≤ l.length
  · rw [if_pos h2, if_neg (by omega), if_pos (by omega), if_pos (by omega), w64 (x := i - b - 1 + 1) (by omega) (by omega), if_pos (by omega), if_pos (by omega), if_pos h2]
    unfold slices_Clone_Entry.f
    rw [if_pos (by simp; omega), show i - b - 1 + 1 = i - b by omega]
    rfl
  · rw [if_neg h2, if_pos (by omega), if_neg h2]
    unfold impl_copyLog.f slices_Clone_Entry.f
    rw [if_pos (by omega)]
    rfl

theorem FnExactLogCut : OpnFnExactLogCut.Pure := by
  intro b t l i hb _ ⟨hl, _⟩ hi
  refine ⟨l.length + 5, ?_⟩
  unfold laws_FnExactLogCut.f
  rw [szLog_all b t l hl]
  simp only [Option.bind_some]
  by_cases hbig : (1048576 : Int) - l.length < 0
  · rw [if_pos hbig]; rfl
  · rw [if_neg hbig, if_neg hbig, toLog_all b t l (by omega) _ (by omega)]
    have hm : (l.map cvEntry).length = l.length := List.length_map ..
    have hs := spec_logcut b t (l.map cvEntry) i (by omega) (wf_i64 hb) (wf_i64 hi)
    have hi' := impl_logcut b t (l.map cvEntry) i (by omega) (wf_i64 hb) (wf_i64 hi)
    have hle := logCut_len b t (l.map cvEntry) i
    generalize logCut b t (l.map cvEntry) i = r at *
    obtain ⟨rb, rt, r⟩ := r
    simp only at hle
    obtain ⟨y, h1, h2⟩ := markEntryS_all (l.map cvEntry) (by omega) 1 (by omega) (by omega)
    obtain ⟨z, h3, h4⟩ := markEntryS_all r (by omega) 1 (by omega) (by omega)
    have hn : ¬ (1 + 6 * ((l.map cvEntry).length : Int) < 0) := by omega
    have hn2 : ¬ (1 + 6 * (r.length : Int) < 0) := by omega
    simp only [Option.bind_some, hs, hi', eqLog_self rb rt r (by omega) (l.length + 5) (by omega), if_true, eqLog_self b t (l.map cvEntry) (by omega) (l.length + 5) (by omega), laws_markLog.f, h1 (l.length + 5) (by omega), hn, if_false, Bool.not_true]
    simp only [laws_FnExactLogCut.j0, Bool.false_eq_true, if_false, laws_markLog.f, laws_heldLog.f, h3 (l.length + 4) (by omega), h4 (l.length + 4) (by omega), Option.bind_some, hn2, if_true, toLog_all b t l (by omega) (l.length + 4) (by omega), hi', eqLog_self rb rt r (by omega) (l.length + 4) (by omega)]

end Go.Proofs.Ytphlmbhjeoljoaa.Pure
