/- A drawn log that is cut has the same entries from there on, its last one stays: no conditions. -/
import Derived.Test.YtphlmbhjeoljoaaOpnFnLogCut
import Derived.Test.YtphlmbhjeoljoaaPFnLogCutx
namespace Go.Proofs.Ytphlmbhjeoljoaa.Pure
open Go.RowKit Go.Proofs.Ytphlmbhjeoljoaa.PFnLogCut Go.Proofs.YtphlmbhjeoljoaaW.PrintWords Go.Proofs.YtphlmbhjeoljoaaW.PrintLast Go.Proofs.YtphlmbhjeoljoaaW.PrintMore Go.Proofs.Ytphlmbhjeoljoaa.OpnFnLogCut

theorem w64 {x : Int} (h0 : -9223372036854775808 ≤ x) (h1 : x ≤ 9223372036854775807) : wrap64 x = x := by
  unfold wrap64
  omega

theorem wf_i64 {a : Int} (h : (Lit.int .i64 a).wf = true) : -9223372036854775808 ≤ a ∧ a ≤ 9223372036854775807 := by
  simp [Lit.wf] at h
  have h1 : IntKind.min .i64 = -9223372036854775808 := by decide
  have h2 : IntKind.max .i64 = 9223372036854775807 := by decide
  omega


/-- From some number of rounds on, f tells v. -/
def Ev {α : Type} (f : Nat → Option α) (v : α) : Prop := ∃ k0, ∀ k, k0 ≤ k → f k = some v
theorem ev_of {α : Type} {f : Nat → Option α} {v : α} (n : Nat) (h : ∀ k, n < k → f k = some v) : Ev f v := ⟨n + 1, fun k hk => h k (by omega)⟩
theorem ev_all {α : Type} {f : Nat → Option α} {v : α} (h : ∀ k, f k = some v) : Ev f v := ⟨0, fun k _ => h k⟩
theorem ev_some {α : Type} (v : α) : Ev (fun _ => some v) v := ⟨0, fun _ _ => rfl⟩
theorem ev_eq {α : Type} {f : Nat → Option α} {v u : α} (h : Ev f v) (e : v = u) : Ev f u := e ▸ h
theorem ev_bind {α β : Type} {f : Nat → Option α} {g : Nat → α → Option β} {a : α} {b : β} (hf : Ev f a) (hg : Ev (fun k => g k a) b) : Ev (fun k => (f k).bind (g k)) b := by
  obtain ⟨m, hm⟩ := hf
  obtain ⟨n, hn⟩ := hg
  refine ⟨m + n, fun k hk => ?_⟩
  show (f k).bind (g k) = _
  rw [hm k (by omega)]
  exact hn k (by omega)
theorem ev_step {α : Type} {f g : Nat → Option α} {v : α} (e : ∀ k, f (k + 1) = g k) (h : Ev g v) : Ev f v := by
  obtain ⟨n, hn⟩ := h
  refine ⟨n + 1, fun k hk => ?_⟩
  obtain ⟨k, rfl⟩ : ∃ m, k = m + 1 := ⟨k - 1, by omega⟩
  rw [e]; exact hn k (by omega)
theorem ev_pos {α : Type} {f g : Nat → Option α} {v : α} {c : Prop} [Decidable c] (hc : c) (h : Ev f v) : Ev (fun k => if c then f k else g k) v := by simpa only [if_pos hc] using h
theorem ev_neg {α : Type} {f g : Nat → Option α} {v : α} {c : Prop} [Decidable c] (hc : ¬ c) (h : Ev g v) : Ev (fun k => if c then f k else g k) v := by simpa only [if_neg hc] using h
theorem ev_tt {α : Type} {f g : Nat → Option α} {v : α} (h : Ev f v) : Ev (fun k => if true = true then f k else g k) v := ev_pos rfl h

/-- From lo to hi. -/
def inR (a lo hi : Int) : Bool := decide (lo ≤ a) && decide (a ≤ hi)

theorem spec_in (a lo hi : Int) : spec_l1In.f a lo hi = some (inR a lo hi) := by
  unfold spec_l1In.f inR
  by_cases h : a ≥ lo
  · rw [if_pos h]; simp [h]
  · rw [if_neg h]; simp; omega


theorem and255 (x : Int) : 0 ≤ Go.bits .and .i64 x 255 ∧ Go.bits .and .i64 x 255 ≤ 255 := by
  have h : (BitVec.ofInt 64 x).toNat &&& 255 ≤ 255 := Nat.and_le_right
  have e : Go.bits .and .i64 x 255 = IntKind.i64.wrap (((BitVec.ofInt 64 x).toNat &&& 255 : Nat) : Int) := by
    simp only [Go.bits, BitVec.toNat_and]
    rfl
  rw [e, IntKind.wrap_i64]
  omega
/-- Where a cursor over drawn bytes may stand. -/
def Cur (b : List Int) (i : Int) : Prop := 0 ≤ i ∧ i ≤ b.length ∧ b.length ≤ 1048576
theorem byte_ok (b : List Int) (i h : Int) (hc : Cur b i) : ∃ x i' h' : Int, spec_l1Byte.f b i h = some (x, i', h') ∧ 0 ≤ x ∧ x ≤ 255 ∧ Cur b i' := by
  obtain ⟨h0, h1, h2⟩ := hc
  unfold spec_l1Byte.f
  by_cases c : i < b.length
  · rw [if_pos c, if_pos h0, w64 (x := i + 1) (by omega) (by omega)]
    exact ⟨_, _, _, rfl, (and255 _).1, (and255 _).2, by omega, by omega, h2⟩
  · rw [if_neg c]
    exact ⟨_, _, _, rfl, (and255 _).1, (and255 _).2, h0, h1, h2⟩
theorem below_ok (b : List Int) (i h n : Int) (hc : Cur b i) : ∃ x i' h' : Int, spec_l1Below.f b i h n = some (x, i', h') ∧ 0 ≤ x ∧ (0 < n → x < n) ∧ Cur b i' := by
  unfold spec_l1Below.f
  by_cases c : n ≤ 0
  · exact ⟨0, i, h, by rw [if_pos c], by omega, by omega, hc⟩
  · rw [if_neg c]
    obtain ⟨x, i1, h1, e1, a1, b1, c1⟩ := byte_ok b i h hc
    by_cases c2 : n ≤ 256
    · rw [if_pos c2, e1]
      simp only [Option.bind_some]
      rw [if_neg (by omega)]
      exact ⟨_, _, _, rfl, Int.tmod_nonneg _ a1, fun hn => Int.tmod_lt_of_pos _ hn, c1⟩
    · rw [if_neg c2, e1]
      obtain ⟨y, i2, h2, e2, a2, b2, c3⟩ := byte_ok b i1 h1 c1
      obtain ⟨z, i3, h3, e3, a3, b3, c4⟩ := byte_ok b i2 h2 c3
      obtain ⟨w, i4, h4, e4, a4, b4, c5⟩ := byte_ok b i3 h3 c4
      simp only [Option.bind_some, e2, e3, e4]
      rw [if_neg (by omega), w64 (x := x * 16777216) (by omega) (by omega), w64 (x := y * 65536) (by omega) (by omega), w64 (x := z * 256) (by omega) (by omega), w64 (x := x * 16777216 + y * 65536) (by omega) (by omega), w64 (x := x * 16777216 + y * 65536 + z * 256) (by omega) (by omega), w64 (x := x * 16777216 + y * 65536 + z * 256 + w) (by omega) (by omega)]
      exact ⟨_, _, _, rfl, Int.tmod_nonneg _ (by omega), fun hn => Int.tmod_lt_of_pos _ hn, c5⟩
theorem once_ok (b : List Int) (i h n : Int) (hc : Cur b i) : ∃ (x : Bool) (i' h' : Int), spec_l1Once.f b i h n = some (x, i', h') ∧ Cur b i' := by
  obtain ⟨x, i1, h1, e, _, _, c⟩ := below_ok b i h n hc
  exact ⟨_, i1, h1, by unfold spec_l1Once.f; rw [e]; rfl, c⟩
theorem pick_ok (b : List Int) (i h : Int) (l : List Int) (hl : 0 < l.length) (hc : Cur b i) : ∃ x i' h' : Int, spec_l1PickInt.f b i h l = some (x, i', h') ∧ x ∈ l ∧ Cur b i' := by
  obtain ⟨x, i1, h1, e, a1, a2, c⟩ := below_ok b i h l.length hc
  have := a2 (by omega)
  refine ⟨rd l x, i1, h1, ?_, ?_, c⟩
  · unfold spec_l1PickInt.f
    rw [e]
    simp only [Option.bind_some]
    rw [if_pos a1, if_pos this]
  · unfold rd
    rw [List.getD_eq_getElem?_getD, List.getElem?_eq_getElem (by omega)]
    exact List.getElem_mem _

theorem new_l0 (b : List Int) (hb : b.length ≤ 1048576) : ∀ (d : Nat) (h i : Int), 0 ≤ i → i ≤ b.length → (b.length : Int) - i = d → ∃ h', Ev (fun k => spec_l1New.l0 k b h i) (b, 0, h') := by
  intro d
  induction d with
  | zero =>
    intro h i h0 h1 hd
    exact ⟨h, ev_step (fun k => by simp only [spec_l1New.l0]; exact rfl) (ev_neg (by omega) (ev_some _))⟩
  | succ d ih =>
    intro h i h0 h1 hd
    have wi : wrap64 (i + 1) = i + 1 := w64 (by omega) (by omega)
    by_cases c : i < 4000
    · obtain ⟨h', e⟩ := ih (Go.bits .and .i64 (wrap64 ((wrap64 ((wrap64 (h * 131)) + (wrap64 (rd b i)))) + 7)) 1073741823) (i + 1) (by omega) (by omega) (by omega)
      refine ⟨h', ev_step (fun k => by simp only [spec_l1New.l0, wi]; exact rfl) ?_⟩
      exact ev_pos (by omega) (ev_pos c (ev_pos h0 e))
    · refine ⟨h, ev_step (fun k => by simp only [spec_l1New.l0, wi]; exact rfl) ?_⟩
      exact ev_pos (by omega) (ev_neg c (ev_some _))
theorem new_ok (b : List Int) (hb : b.length ≤ 1048576) : ∃ h, Ev (fun k => spec_l1New.f k b) (b, 0, h) ∧ Cur b 0 := by
  obtain ⟨h, e⟩ := new_l0 b hb b.length (wrap64 (18665 + (b.length : Int))) 0 (by omega) (by omega) (by omega)
  exact ⟨h, by unfold spec_l1New.f; exact e, by omega, by omega, hb⟩
theorem key_ok (b : List Int) (i h : Int) (hc : Cur b i) : ∃ x i' h' : Int, spec_l1DrawKey.f b i h = some (x, i', h') ∧ 0 ≤ x ∧ x ≤ 999 ∧ Cur b i' := by
  unfold spec_l1DrawKey.f
  obtain ⟨o, i1, h1, e1, c1⟩ := once_ok b i h 15 hc
  rw [e1]
  simp only [Option.bind_some]
  cases o with
  | true =>
    obtain ⟨x, i2, h2, e2, m2, c2⟩ := pick_ok b i1 h1 [0, 999, 500] (by simp) c1
    rw [if_pos rfl, e2]
    refine ⟨x, i2, h2, rfl, ?_, ?_, c2⟩ <;> (simp at m2; omega)
  | false =>
    obtain ⟨x, i2, h2, e2, a2, b2, c2⟩ := below_ok b i1 h1 30 c1
    have := b2 (by omega)
    rw [if_neg (by simp), e2]
    exact ⟨x, i2, h2, rfl, a2, by omega, c2⟩

theorem drawmsg_ok (b : List Int) (i h : Int) (hc : Cur b i) : ∃ (op a v i' h' : Int), Ev (fun k => spec_l1DrawMsg.f k b i h) (op, a, v, i', h') ∧ (1 ≤ op ∧ op ≤ 4) ∧ (0 ≤ a ∧ a ≤ 999) ∧ Cur b i' := by
  obtain ⟨op, i1, h1, e1, m1, c1⟩ := pick_ok b i h [1, 1, 1, 2, 3, 3, 4] (by simp) hc
  have hop : 1 ≤ op ∧ op ≤ 4 := by simp at m1; omega
  obtain ⟨a, i2, h2, e2, a0, a1, c2⟩ := key_ok b i1 h1 c1
  have j : ∀ x : Bool, ∃ (v i' h' : Int), Ev (fun k => spec_l1DrawMsg.j0 k x b i2 h2 op a 0) (op, a, v, i', h') ∧ Cur b i' := by
    intro x
    cases x with
    | true =>
      obtain ⟨y, i3, h3, e3, _, _, c3⟩ := below_ok b i2 h2 99 c2
      obtain ⟨z, i4, h4, e4, _, c4⟩ := pick_ok b i3 h3 [1, (-2), 5, 700, 1000000000, (-1000000000), y] (by simp) c3
      refine ⟨z, i4, h4, ev_step (fun k => by simp only [spec_l1DrawMsg.j0, e3, e4, Option.bind_some, if_true]) (ev_some _), c4⟩
    | false =>
      exact ⟨0, i2, h2, ev_step (fun k => by simp only [spec_l1DrawMsg.j0, Bool.false_eq_true, if_false]) (ev_some _), c2⟩
  unfold spec_l1DrawMsg.f
  by_cases hp : op = 1
  · obtain ⟨v, i3, h3, e3, c3⟩ := j true
    refine ⟨op, a, v, i3, h3, ?_, hop, ⟨a0, a1⟩, c3⟩
    refine ev_bind (ev_all (fun k => e1)) ?_
    refine ev_bind (ev_all (fun k => e2)) ?_
    exact ev_pos hp e3
  · obtain ⟨v, i3, h3, e3, c3⟩ := j (op == 3)
    refine ⟨op, a, v, i3, h3, ?_, hop, ⟨a0, a1⟩, c3⟩
    refine ev_bind (ev_all (fun k => e1)) ?_
    refine ev_bind (ev_all (fun k => e2)) ?_
    exact ev_neg hp e3
theorem drawbad_ok (b : List Int) (i h : Int) (hc : Cur b i) : ∃ (op a v i' h' : Int), Ev (fun k => spec_l1DrawBad.f k b i h) (op, a, v, i', h') ∧ Cur b i' := by
  obtain ⟨op, a, v, i1, h1, e1, _, _, c1⟩ := drawmsg_ok b i h hc
  obtain ⟨x, i2, h2, e2, _, _, c2⟩ := below_ok b i1 h1 15 c1
  unfold spec_l1DrawBad.f
  by_cases x0 : x = 0
  · obtain ⟨y, i3, h3, e3, _, _, c3⟩ := below_ok b i2 h2 7 c2
    refine ⟨wrap64 (y - 1), a, v, i3, h3, ?_, c3⟩
    refine ev_bind e1 ?_
    refine ev_bind (ev_all (fun k => e2)) ?_
    refine ev_pos x0 ?_
    exact ev_bind (ev_all (fun k => e3)) (ev_some _)
  · by_cases x1 : x = 1
    · obtain ⟨y, i3, h3, e3, _, c3⟩ := pick_ok b i2 h2 [(-1), 1000] (by simp) c2
      refine ⟨op, y, v, i3, h3, ?_, c3⟩
      refine ev_bind e1 ?_
      refine ev_bind (ev_all (fun k => e2)) ?_
      refine ev_neg x0 ?_
      refine ev_pos x1 ?_
      exact ev_bind (ev_all (fun k => e3)) (ev_some _)
    · by_cases x2 : x = 2
      · obtain ⟨y, i3, h3, e3, _, c3⟩ := pick_ok b i2 h2 [1000000001, 3] (by simp) c2
        refine ⟨op, a, y, i3, h3, ?_, c3⟩
        refine ev_bind e1 ?_
        refine ev_bind (ev_all (fun k => e2)) ?_
        refine ev_neg x0 ?_
        refine ev_neg x1 ?_
        refine ev_pos x2 ?_
        exact ev_bind (ev_all (fun k => e3)) (ev_some _)
      · refine ⟨op, a, v, i2, h2, ?_, c2⟩
        refine ev_bind e1 ?_
        refine ev_bind (ev_all (fun k => e2)) ?_
        refine ev_neg x0 ?_
        refine ev_neg x1 ?_
        exact ev_neg x2 (ev_some _)

theorem wrap_in (x : Int) : -9223372036854775808 ≤ wrap64 x ∧ wrap64 x ≤ 9223372036854775807 := by
  unfold wrap64
  omega
theorem drawright_l0 (b : List Int) (n p q : Int) : ∀ (d : Nat) (t : Int) (l : List S129) (x i h : Int), 0 ≤ x → x ≤ n → n - x = d → n ≤ 1000 → l.length + d ≤ 1000 → Cur b i → ∃ (l' : List S129) (i' h' : Int), Ev (fun k => spec_l8DrawRight.l0 k t n x b i h p q l) (p, q, l', i', h') ∧ l'.length ≤ l.length + d ∧ Cur b i' := by
  intro d
  induction d with
  | zero =>
    intro t l x i h h0 h1 hd hn hl hc
    exact ⟨l, i, h, ev_step (fun k => by simp only [spec_l8DrawRight.l0]; exact rfl) (ev_neg (by omega) (ev_some _)), by omega, hc⟩
  | succ d ih =>
    intro t l x i h h0 h1 hd hn hl hc
    have wx : wrap64 (x + 1) = x + 1 := w64 (by omega) (by omega)
    obtain ⟨y, i1, h1', e1, _, _, c1⟩ := below_ok b i h 4 hc
    obtain ⟨o, i2, h2, e2, c2⟩ := once_ok b i1 h1' 4 c1
    cases o with
    | true =>
      obtain ⟨l', i', h', e, hl', c'⟩ := ih (wrap64 (t + (wrap64 (Int.tdiv y 3)))) (l ++ [(⟨wrap64 (t + (wrap64 (Int.tdiv y 3))), (⟨0, 0, (⟨0, 0, 0⟩ : S67)⟩ : S127)⟩ : S129)]) (x + 1) i2 h2 (by omega) (by omega) (by omega) hn (by simp; omega) c2
      refine ⟨l', i', h', ev_step (fun k => by simp only [spec_l8DrawRight.l0, wx]; exact rfl) ?_, by simp at hl'; omega, c'⟩
      refine ev_pos (by omega) ?_
      refine ev_bind (ev_all (fun k => e1)) ?_
      refine ev_bind (ev_all (fun k => e2)) ?_
      refine ev_pos (by rfl) ?_
      exact ev_pos (by omega) e
    | false =>
      obtain ⟨u, i3, h3, e3, _, _, c3⟩ := below_ok b i2 h2 3 c2
      obtain ⟨v, i4, h4, e4, _, _, c4⟩ := below_ok b i3 h3 5 c3
      obtain ⟨op, a, w, i5, h5, e5, _, _, c5⟩ := drawmsg_ok b i4 h4 c4
      obtain ⟨l', i', h', e, hl', c'⟩ := ih (wrap64 (t + (wrap64 (Int.tdiv y 3)))) (l ++ [(⟨wrap64 (t + (wrap64 (Int.tdiv y 3))), (⟨wrap64 (1 + u), wrap64 (1 + v), (⟨op, a, w⟩ : S67)⟩ : S127)⟩ : S129)]) (x + 1) i5 h5 (by omega) (by omega) (by omega) hn (by simp; omega) c5
      refine ⟨l', i', h', ev_step (fun k => by simp only [spec_l8DrawRight.l0, wx]; exact rfl) ?_, by simp at hl'; omega, c'⟩
      refine ev_pos (by omega) ?_
      refine ev_bind (ev_all (fun k => e1)) ?_
      refine ev_bind (ev_all (fun k => e2)) ?_
      refine ev_neg (by simp) ?_
      refine ev_bind (ev_all (fun k => e3)) ?_
      refine ev_bind (ev_all (fun k => e4)) ?_
      refine ev_bind e5 ?_
      exact ev_pos (by omega) e
theorem drawright_ok (b : List Int) (i h : Int) (hc : Cur b i) : ∃ (p q : Int) (l : List S129) (i' h' : Int), Ev (fun k => spec_l8DrawRight.f k b i h) (p, q, l, i', h') ∧ (0 ≤ p ∧ p ≤ 3) ∧ l.length ≤ 100 ∧ Cur b i' := by
  obtain ⟨p, i1, h1, e1, a1, b1, c1⟩ := below_ok b i h 4 hc
  obtain ⟨q, i2, h2, e2, _, _, c2⟩ := below_ok b i1 h1 3 c1
  obtain ⟨n, i3, h3, e3, a3, b3, c3⟩ := below_ok b i2 h2 8 c2
  have n1 := b1 (by omega)
  have n3 := b3 (by omega)
  obtain ⟨l, i4, h4, e4, hl, c4⟩ := drawright_l0 b n p q n.toNat q [] 0 i3 h3 (by omega) (by omega) (by omega) (by omega) (by simp; omega) c3
  refine ⟨p, q, l, i4, h4, ?_, ⟨a1, by omega⟩, by simp at hl; omega, c4⟩
  unfold spec_l8DrawRight.f
  refine ev_bind (ev_all (fun k => e1)) ?_
  refine ev_bind (ev_all (fun k => e2)) ?_
  exact ev_bind (ev_all (fun k => e3)) e4
theorem drawcmd_ok (b : List Int) (i h : Int) (hc : Cur b i) : ∃ (x y op a v i' h' : Int), Ev (fun k => spec_l7DrawCmd.f k b i h) (x, y, op, a, v, i', h') ∧ Cur b i' := by
  obtain ⟨x, i1, h1, e1, _, _, c1⟩ := below_ok b i h 3 hc
  obtain ⟨y, i2, h2, e2, _, _, c2⟩ := below_ok b i1 h1 6 c1
  obtain ⟨op, a, v, i3, h3, e3, _, _, c3⟩ := drawmsg_ok b i2 h2 c2
  obtain ⟨z, i4, h4, e4, _, _, c4⟩ := below_ok b i3 h3 25 c3
  unfold spec_l7DrawCmd.f
  by_cases z0 : z = 0
  · refine ⟨0, 0, 0, 0, 0, i4, h4, ?_, c4⟩
    refine ev_bind (ev_all (fun k => e1)) ?_
    refine ev_bind (ev_all (fun k => e2)) ?_
    refine ev_bind e3 ?_
    refine ev_bind (ev_all (fun k => e4)) ?_
    exact ev_pos z0 (ev_some _)
  · by_cases z1 : z = 1
    · obtain ⟨op2, a2, v2, i5, h5, e5, c5⟩ := drawbad_ok b i4 h4 c4
      refine ⟨wrap64 (1 + x), wrap64 (1 + y), op2, a2, v2, i5, h5, ?_, c5⟩
      refine ev_bind (ev_all (fun k => e1)) ?_
      refine ev_bind (ev_all (fun k => e2)) ?_
      refine ev_bind e3 ?_
      refine ev_bind (ev_all (fun k => e4)) ?_
      refine ev_neg z0 ?_
      refine ev_pos z1 ?_
      exact ev_bind e5 (ev_some _)
    · by_cases z2 : z = 2
      · obtain ⟨w, i5, h5, e5, _, c5⟩ := pick_ok b i4 h4 [0, 100000, 100001] (by simp) c4
        refine ⟨wrap64 (1 + x), w, op, a, v, i5, h5, ?_, c5⟩
        refine ev_bind (ev_all (fun k => e1)) ?_
        refine ev_bind (ev_all (fun k => e2)) ?_
        refine ev_bind e3 ?_
        refine ev_bind (ev_all (fun k => e4)) ?_
        refine ev_neg z0 ?_
        refine ev_neg z1 ?_
        refine ev_pos z2 ?_
        exact ev_bind (ev_all (fun k => e5)) (ev_some _)
      · by_cases z3 : z = 3
        · obtain ⟨w, i5, h5, e5, _, c5⟩ := pick_ok b i4 h4 [(-1), 9, 10] (by simp) c4
          refine ⟨w, wrap64 (1 + y), op, a, v, i5, h5, ?_, c5⟩
          refine ev_bind (ev_all (fun k => e1)) ?_
          refine ev_bind (ev_all (fun k => e2)) ?_
          refine ev_bind e3 ?_
          refine ev_bind (ev_all (fun k => e4)) ?_
          refine ev_neg z0 ?_
          refine ev_neg z1 ?_
          refine ev_neg z2 ?_
          refine ev_pos z3 ?_
          exact ev_bind (ev_all (fun k => e5)) (ev_some _)
        · refine ⟨wrap64 (1 + x), wrap64 (1 + y), op, a, v, i4, h4, ?_, c4⟩
          refine ev_bind (ev_all (fun k => e1)) ?_
          refine ev_bind (ev_all (fun k => e2)) ?_
          refine ev_bind e3 ?_
          refine ev_bind (ev_all (fun k => e4)) ?_
          refine ev_neg z0 ?_
          refine ev_neg z1 ?_
          refine ev_neg z2 ?_
          exact ev_neg z3 (ev_some _)
theorem drawlog_ok (b : List Int) (i h : Int) (hc : Cur b i) : ∃ (p q : Int) (l : List S129) (i' h' : Int), Ev (fun k => spec_l8Draw.f k b i h) (p, q, l, i', h') ∧ (-1 ≤ p ∧ p ≤ 100001) ∧ l.length ≤ 101 ∧ Cur b i' := by
  obtain ⟨p, q, l, i1, h1, e1, hp, hl, c1⟩ := drawright_ok b i h hc
  obtain ⟨x, i2, h2, e2, _, _, c2⟩ := below_ok b i1 h1 20 c1
  unfold spec_l8Draw.f
  by_cases x0 : x = 0
  · obtain ⟨y, i3, h3, e3, m3, c3⟩ := pick_ok b i2 h2 [(-1), 100000, 100001] (by simp) c2
    refine ⟨y, q, l, i3, h3, ?_, by simp at m3; omega, by omega, c3⟩
    refine ev_bind e1 ?_
    refine ev_bind (ev_all (fun k => e2)) ?_
    refine ev_pos x0 ?_
    exact ev_bind (ev_all (fun k => e3)) (ev_some _)
  · by_cases x1 : x = 1
    · obtain ⟨y, i3, h3, e3, _, _, c3⟩ := below_ok b i2 h2 9 c2
      refine ⟨p, y, l, i3, h3, ?_, by omega, by omega, c3⟩
      refine ev_bind e1 ?_
      refine ev_bind (ev_all (fun k => e2)) ?_
      refine ev_neg x0 ?_
      refine ev_pos x1 ?_
      exact ev_bind (ev_all (fun k => e3)) (ev_some _)
    · by_cases x2 : x = 2
      · obtain ⟨y, i3, h3, e3, _, _, c3⟩ := below_ok b i2 h2 3 c2
        obtain ⟨u, v, op, a, w, i4, h4, e4, c4⟩ := drawcmd_ok b i3 h3 c3
        refine ⟨p, q, l ++ [(⟨y, (⟨u, v, (⟨op, a, w⟩ : S67)⟩ : S127)⟩ : S129)], i4, h4, ?_, by omega, by simp; omega, c4⟩
        refine ev_bind e1 ?_
        refine ev_bind (ev_all (fun k => e2)) ?_
        refine ev_neg x0 ?_
        refine ev_neg x1 ?_
        refine ev_pos x2 ?_
        refine ev_bind (ev_all (fun k => e3)) ?_
        refine ev_bind e4 ?_
        exact ev_pos (by simp only; omega) (ev_some _)
      · refine ⟨p, q, l, i2, h2, ?_, by omega, by omega, c2⟩
        refine ev_bind e1 ?_
        refine ev_bind (ev_all (fun k => e2)) ?_
        refine ev_neg x0 ?_
        refine ev_neg x1 ?_
        exact ev_neg x2 (ev_some _)
theorem drawat_ok (b : List Int) (i h : Int) (p q : Int) (l : List S129) (_ : l.length ≤ 101) (hc : Cur b i) : ∃ (x i' h' : Int), spec_l8DrawAt.f b i h p q l = some (x, i', h') ∧ (-9223372036854775808 ≤ x ∧ x ≤ 9223372036854775807) ∧ Cur b i' := by
  obtain ⟨o, i1, h1, e1, c1⟩ := once_ok b i h 20 hc
  unfold spec_l8DrawAt.f
  rw [e1]
  simp only [Option.bind_some]
  cases o with
  | true =>
    obtain ⟨x, i2, h2, e2, m2, c2⟩ := pick_ok b i1 h1 [(-1), 9223372036854775807, (-9223372036854775807)] (by simp) c1
    rw [if_pos rfl, e2]
    exact ⟨x, i2, h2, rfl, by simp at m2; omega, c2⟩
  | false =>
    obtain ⟨x, i2, h2, e2, _, _, c2⟩ := below_ok b i1 h1 (wrap64 ((l.length : Int) + 3)) c1
    rw [if_neg (by simp), e2]
    exact ⟨_, i2, h2, rfl, wrap_in _, c2⟩
theorem drawboth_ok (b : List Int) (hb : b.length ≤ 1048576) : ∃ (p q : Int) (l : List S129) (x : Int), Ev (fun k => spec_l8DrawBoth.f k b) (p, q, l, x) ∧ (-1 ≤ p ∧ p ≤ 100001) ∧ l.length ≤ 101 ∧ (-9223372036854775808 ≤ x ∧ x ≤ 9223372036854775807) := by
  obtain ⟨h0, e0, c0⟩ := new_ok b hb
  obtain ⟨p, q, l, i1, h1, e1, hp, hl, c1⟩ := drawlog_ok b 0 h0 c0
  obtain ⟨x, i2, h2, e2, hx, c2⟩ := drawat_ok b i1 h1 p q l hl c1
  refine ⟨p, q, l, x, ?_, hp, hl, hx⟩
  unfold spec_l8DrawBoth.f
  refine ev_bind e0 ?_
  refine ev_bind e1 ?_
  exact ev_bind (ev_all (fun k => e2)) (ev_some _)

/-- LogCut, as the document says it. -/
def logCut (b t : Int) (l : List S129) (i : Int) : Int × Int × List S129 := if b < i ∧ i - b ≤ l.length then (i, (rd_T129 l (i - b - 1)).f0, l.drop (i - b).toNat) else (b, t, l)
theorem logCut_len (b t : Int) (l : List S129) (i : Int) : (logCut b t l i).2.2.length ≤ l.length := by
  unfold logCut
  split
  · simp
  · simp

theorem spec_logcut (b t : Int) (l : List S129) (i : Int) (hl : l.length ≤ 1048576) (hb : -9223372036854775808 ≤ b ∧ b ≤ 9223372036854775807) (hi : -9223372036854775808 ≤ i ∧ i ≤ 9223372036854775807) : spec_LogCut.f b t l i = some (logCut b t l i) := by
  unfold spec_LogCut.f spec_l8Copy.f logCut
  simp only [Option.bind_some, List.nil_append, List.length_nil, Nat.zero_add]
  rw [if_pos (by omega)]
  simp only [Option.bind_some]
  by_cases h2 : i ≤ b
  · rw [if_pos h2, if_neg (by omega)]
  · rw [if_neg h2, spec_in]
    simp only [Option.bind_some]
    by_cases h3 : i - b ≤ l.length
    · have e0 : wrap64 (i - b) = i - b := w64 (by omega) (by omega)
      rw [e0, w64 (x := i - b - 1) (by omega) (by omega), if_pos (by simp [inR]; omega), if_pos (by omega), if_pos (by omega), if_pos (by omega), if_pos (by omega), if_pos (by simp; omega), if_pos ⟨by omega, h3⟩]
    · rw [if_neg (by unfold inR wrap64; simp; omega), if_neg (by omega)]

/-- LastOf, as the document says it. -/
def lastOf (b t : Int) (l : List S129) : Int × Int := if l.length = 0 then (b, t) else (wrap64 (b + l.length), (rd_T129 l ((l.length : Int) - 1)).f0)

theorem spec_lastof (b t : Int) (l : List S129) (hl : l.length ≤ 140737488355328) : spec_LastOf.f b t l = some (lastOf b t l) := by
  unfold spec_LastOf.f lastOf
  by_cases h : l.length = 0
  · rw [if_pos (by omega), if_pos h]
  · rw [if_neg (by omega), if_neg h, w64 (x := (l.length : Int) - 1) (by omega) (by omega), if_pos (by omega), if_pos (by omega)]

theorem impl_lastof (b t : Int) (l : List S129) (hl : l.length ≤ 140737488355328) : impl_LastOf.f b t l = some (lastOf b t l) := by
  unfold impl_LastOf.f impl_lastIndex.f lastOf
  by_cases h : l.length = 0
  · rw [if_pos (by omega), if_pos h]
  · rw [if_neg (by omega), if_neg h]
    simp only [Option.bind_some]
    rw [w64 (x := (l.length : Int) - 1) (by omega) (by omega), if_pos (by omega), if_pos (by omega)]

/-- TermAt, as the document says it. -/
def termAt (b t : Int) (l : List S129) (i : Int) : Int := if i = b then t else if b < i ∧ i - b ≤ l.length then (rd_T129 l (i - b - 1)).f0 else -1

theorem wrap_u64 (n : Int) : IntKind.u64.wrap n = n % 18446744073709551616 := by simp [IntKind.wrap, IntKind.bits, IntKind.signed]

theorem spec_termat (b t : Int) (l : List S129) (i : Int) (hl : l.length ≤ 140737488355328) (hb : -9223372036854775808 ≤ b ∧ b ≤ 9223372036854775807) (hi : -9223372036854775808 ≤ i ∧ i ≤ 9223372036854775807) : spec_TermAt.f b t l i = some (termAt b t l i) := by
  unfold spec_TermAt.f termAt
  by_cases h : i = b
  · rw [if_pos h, if_pos h]
  · rw [if_neg h, if_neg h]
    by_cases h2 : i < b
    · rw [if_pos h2, if_neg (by omega)]
    · rw [if_neg h2, spec_in, w64 (x := (l.length : Int) - 1) (by omega) (by omega)]
      simp only [Option.bind_some]
      by_cases h3 : i - b ≤ l.length
      · have e : wrap64 ((wrap64 (i - b)) - 1) = i - b - 1 := by rw [w64 (x := i - b) (by omega) (by omega), w64 (by omega) (by omega)]
        rw [e, if_pos (by simp [inR]; omega), if_pos (by omega), if_pos (by omega), if_pos ⟨by omega, h3⟩]
      · rw [if_neg (by unfold inR wrap64; simp; omega), if_neg (by omega)]

/-- Where entry number i stands; -1 where there is none. -/
def placeOf (b : Int) (l : List S129) (i : Int) : Int := if b < i ∧ i - b ≤ l.length then i - b - 1 else -1

theorem impl_placeof (b t : Int) (l : List S129) (i : Int) (hl : l.length ≤ 140737488355328) (hb : -9223372036854775808 ≤ b ∧ b ≤ 9223372036854775807) (hi : -9223372036854775808 ≤ i ∧ i ≤ 9223372036854775807) : impl_placeOf.f b t l i = some (placeOf b l i) := by
  unfold impl_placeOf.f placeOf
  by_cases h : i ≤ b
  · rw [if_pos h, if_neg (by omega)]
  · rw [if_neg h]
    have e : IntKind.u64.wrap ((IntKind.u64.wrap i) - (IntKind.u64.wrap b)) = i - b := by simp only [wrap_u64]; omega
    have e2 : IntKind.u64.wrap ((l.length : Int)) = l.length := by simp only [wrap_u64]; omega
    rw [e, e2]
    by_cases h2 : i - b > l.length
    · rw [if_pos h2, if_neg (by omega)]
    · rw [if_neg h2, if_pos (by omega), w64 (x := i - b) (by omega) (by omega), w64 (by omega) (by omega)]

theorem impl_termat (b t : Int) (l : List S129) (i : Int) (hl : l.length ≤ 140737488355328) (hb : -9223372036854775808 ≤ b ∧ b ≤ 9223372036854775807) (hi : -9223372036854775808 ≤ i ∧ i ≤ 9223372036854775807) : impl_TermAt.f b t l i = some (termAt b t l i) := by
  unfold impl_TermAt.f termAt
  by_cases h : i = b
  · rw [if_pos h, if_pos h]
  · rw [if_neg h, if_neg h, impl_placeof b t l i hl hb hi]
    simp only [Option.bind_some, placeOf]
    by_cases h2 : b < i ∧ i - b ≤ l.length
    · rw [if_pos h2, if_pos (by omega), if_pos (by omega), if_pos (by omega), if_pos h2]
    · rw [if_neg h2, if_neg (by omega), if_neg h2]

theorem impl_logcut (b t : Int) (l : List S129) (i : Int) (hl : l.length ≤ 1048576) (hb : -9223372036854775808 ≤ b ∧ b ≤ 9223372036854775807) (hi : -9223372036854775808 ≤ i ∧ i ≤ 9223372036854775807) : impl_LogCut.f b t l i = some (logCut b t l i) := by
  unfold impl_LogCut.f logCut
  rw [impl_placeof b t l i (by omega) hb hi]
  simp only [Option.bind_some, placeOf]
  by_cases h2 : b < i ∧ i - b ≤ l.length
  · rw [if_pos h2, if_neg (by omega), if_pos (by omega), if_pos (by omega), w64 (x := i - b - 1 + 1) (by omega) (by omega), if_pos (by omega), if_pos (by omega), if_pos h2]
    unfold slices_Clone_Entry.f
    rw [if_pos (by simp; omega), show i - b - 1 + 1 = i - b by omega]
    rfl
  · rw [if_neg h2, if_pos (by omega), if_neg h2]
    unfold impl_copyLog.f slices_Clone_Entry.f
    rw [if_pos (by omega)]
    rfl

/-- EntriesFrom, as the document says it. -/
def entriesFrom (b : Int) (l : List S129) (i : Int) : List S129 := if b < i ∧ i - b ≤ l.length then l.drop (i - b - 1).toNat else []
theorem entriesFrom_len (b : Int) (l : List S129) (i : Int) : (entriesFrom b l i).length ≤ l.length := by
  unfold entriesFrom
  split
  · simp
  · simp

theorem spec_entriesfrom (b t : Int) (l : List S129) (i : Int) (hl : l.length ≤ 1048576) (hb : -9223372036854775808 ≤ b ∧ b ≤ 9223372036854775807) (hi : -9223372036854775808 ≤ i ∧ i ≤ 9223372036854775807) : spec_EntriesFrom.f b t l i = some (entriesFrom b l i) := by
  unfold spec_EntriesFrom.f entriesFrom
  by_cases h2 : i ≤ b
  · rw [if_pos h2, if_neg (by omega)]
  · rw [if_neg h2, spec_in]
    simp only [Option.bind_some, List.nil_append, List.length_nil, Nat.zero_add]
    by_cases h3 : i - b ≤ l.length
    · have e : wrap64 ((wrap64 (i - b)) - 1) = i - b - 1 := by rw [w64 (x := i - b) (by omega) (by omega), w64 (by omega) (by omega)]
      rw [e, if_pos (by simp [inR]; omega), if_pos (by omega), if_pos (by omega), if_pos (by simp; omega), if_pos ⟨by omega, h3⟩]
    · by_cases h4 : wrap64 ((wrap64 (i - b)) - 1) = l.length
      · rw [if_pos (by rw [h4]; simp [inR]), h4, if_pos (by omega), if_pos (by omega), if_pos (by simp), if_neg (by omega)]
        simp
      · rw [if_neg (by unfold inR wrap64 at *; simp; omega), if_neg (by omega)]

theorem impl_entriesfrom (b t : Int) (l : List S129) (i : Int) (hl : l.length ≤ 1048576) (hb : -9223372036854775808 ≤ b ∧ b ≤ 9223372036854775807) (hi : -9223372036854775808 ≤ i ∧ i ≤ 9223372036854775807) : impl_EntriesFrom.f b t l i = some (entriesFrom b l i) := by
  unfold impl_EntriesFrom.f entriesFrom
  rw [impl_placeof b t l i (by omega) hb hi]
  simp only [Option.bind_some, placeOf]
  by_cases h2 : b < i ∧ i - b ≤ l.length
  · rw [if_pos h2, if_neg (by omega), if_pos (by omega), if_pos (by omega), if_pos h2]
    unfold slices_Clone_Entry.f
    rw [if_pos (by simp; omega)]
    rfl
  · rw [if_neg h2, if_pos (by omega), if_neg h2]

theorem same_entries_l0 (l : List S129) (hl : l.length ≤ 140737488355328) : ∀ (d : Nat) (i : Int), 0 ≤ i → i ≤ l.length → (l.length : Int) - i = d → Ev (fun k => laws_sameEntries.l0 k l l i) true := by
  intro d
  induction d with
  | zero =>
    intro i h0 h1 hd
    exact ev_step (fun k => by simp only [laws_sameEntries.l0]; exact rfl) (ev_neg (by omega) (ev_some _))
  | succ d ih =>
    intro i h0 h1 hd
    have wi : wrap64 (i + 1) = i + 1 := w64 (by omega) (by omega)
    refine ev_step (fun k => by simp only [laws_sameEntries.l0, wi]; exact rfl) ?_
    refine ev_pos (by omega) (ev_pos h0 (ev_pos (by omega) (ev_neg (by simp) ?_)))
    exact ih (i + 1) (by omega) (by omega) (by omega)
theorem same_log (p q : Int) (l : List S129) (hl : l.length ≤ 140737488355328) : Ev (fun k => laws_sameLog.f k p q l p q l) true := by
  unfold laws_sameLog.f laws_sameEntries.f
  refine ev_pos rfl ?_
  refine ev_pos rfl ?_
  exact ev_bind (ev_pos rfl (same_entries_l0 l hl l.length 0 (by omega) (by omega) (by omega))) (ev_some _)
theorem last_cut (b t : Int) (l : List S129) (i : Int) (hb : -1 ≤ b ∧ b ≤ 100001) (hl : l.length ≤ 101) : lastOf (logCut b t l i).1 (logCut b t l i).2.1 (logCut b t l i).2.2 = lastOf b t l := by
  unfold logCut
  by_cases h : b < i ∧ i - b ≤ l.length
  · rw [if_pos h]
    obtain ⟨n, hn⟩ : ∃ n : Nat, i - b = n := ⟨(i - b).toNat, by omega⟩
    have hi : i = b + n := by omega
    subst hi
    rw [show b + (n : Int) - b = n by omega]
    simp only [Int.toNat_natCast]
    unfold lastOf
    have hlen : (l.drop n).length = l.length - n := by simp
    rw [if_neg (show ¬ l.length = 0 by omega)]
    by_cases h0 : (l.drop n).length = 0
    · rw [if_pos h0]
      have : n = l.length := by omega
      subst this
      rw [w64 (by omega) (by omega)]
    · rw [if_neg h0, hlen]
      have e1 : wrap64 (b + (n : Int) + ((l.length - n : Nat) : Int)) = wrap64 (b + l.length) := by congr 1; omega
      rw [e1]
      congr 2
      unfold rd_T129
      rw [List.getD_eq_getElem?_getD, List.getD_eq_getElem?_getD, List.getElem?_drop]
      congr 2
      omega
  · rw [if_neg h]
theorem law_of {l : List Int} (h : Ev (fun k => laws_FnLogCut.f k l) true) : ∃ k, laws_FnLogCut.f k l = some true := by
  obtain ⟨k, hk⟩ := h
  exact ⟨k, hk k (Nat.le_refl _)⟩
theorem FnLogCut : OpnFnLogCut.Pure := by
  intro b _
  refine law_of ?_
  unfold laws_FnLogCut.f laws_big.f
  by_cases hb : (b.length : Int) > 1048576
  · exact ev_bind (f := fun _ => some (decide ((b.length : Int) > 1048576))) (ev_some _) (ev_pos (by simpa using hb) (ev_some _))
  refine ev_bind (f := fun _ => some (decide ((b.length : Int) > 1048576))) (ev_some _) ?_
  refine ev_neg (by simpa using hb) ?_
  obtain ⟨p, q, l, x, ed, hp, hl, hx⟩ := drawboth_ok b (by omega)
  have e1 : Ev (fun k => spec_DrawLogCut.f k b) (p, q, l, x) := by unfold spec_DrawLogCut.f; exact ev_bind ed (ev_some _)
  have e2 : Ev (fun k => spec_DrawEntriesFrom.f k b) (p, q, l, x) := by unfold spec_DrawEntriesFrom.f; exact ev_bind ed (ev_some _)
  have hlast := last_cut p q l x hp hl
  have hlen := logCut_len p q l x
  have hcut := impl_logcut p q l x (by omega) (by omega) hx
  have hcut2 := spec_logcut p q l x (by omega) (by omega) hx
  have hbase : (logCut p q l x).1 = p ∨ (logCut p q l x).1 = x ∧ p < x ∧ x - p ≤ l.length := by
    unfold logCut
    split
    · rename_i h; exact .inr ⟨rfl, h⟩
    · exact .inl rfl
  generalize logCut p q l x = m at *
  obtain ⟨p', q', l'⟩ := m
  simp only at hlast hlen hbase
  have hp' : -1 ≤ p' ∧ p' ≤ 200000 := by omega
  have tail : Ev (fun k => laws_FnLogCut.j0 k b false p' q' l') true := by
    refine ev_step (fun k => by simp only [laws_FnLogCut.j0]; exact rfl) ?_
    refine ev_neg (by simp) ?_
    refine ev_bind e2 ?_
    refine ev_bind (ev_all (fun k => impl_entriesfrom p q l x (by omega) (by omega) hx)) ?_
    refine ev_bind (ev_all (fun k => spec_entriesfrom p q l x (by omega) (by omega) hx)) ?_
    refine ev_pos rfl ?_
    refine ev_bind (ev_all (fun k => impl_termat p q l x (by omega) (by omega) hx)) ?_
    refine ev_bind (ev_all (fun k => spec_termat p q l x (by omega) (by omega) hx)) ?_
    have hx2 : (termAt p q l x != termAt p q l x) = false := by simp
    rw [hx2]
    obtain ⟨h0, e0, c0⟩ := new_ok b (by omega)
    obtain ⟨p2, q2, l2, i1, h1, e3, hp2, hl2, c1⟩ := drawlog_ok b 0 h0 c0
    obtain ⟨y, i2, h2, e4, hy, c2⟩ := drawat_ok b i1 h1 p2 q2 l2 hl2 c1
    obtain ⟨s, i3, h3, e5, _, _, c3⟩ := below_ok b i2 h2 5 c2
    have ed2 : Ev (fun k => spec_DrawNewer.f k b) (p2, q2, l2, y, s) := by
      unfold spec_DrawNewer.f
      refine ev_bind e0 ?_
      refine ev_bind e3 ?_
      refine ev_bind (ev_all (fun k => e4)) ?_
      exact ev_bind (ev_all (fun k => e5)) (ev_some _)
    obtain ⟨r, hr⟩ : ∃ r, impl_Newer.f p2 q2 l2 y s = some r := by
      unfold impl_Newer.f
      rw [impl_lastof p2 q2 l2 (by omega)]
      simp only [Option.bind_some]
      split
      · exact ⟨_, rfl⟩
      · split <;> exact ⟨_, rfl⟩
    have hr2 : spec_Newer.f p2 q2 l2 y s = some r := by
      rw [← hr]
      unfold spec_Newer.f impl_Newer.f
      rw [spec_lastof p2 q2 l2 (by omega), impl_lastof p2 q2 l2 (by omega)]
    have hself : impl_Newer.f p2 q2 l2 (lastOf p2 q2 l2).1 (lastOf p2 q2 l2).2 = some true := by
      unfold impl_Newer.f
      rw [impl_lastof p2 q2 l2 (by omega)]
      simp only [Option.bind_some]
      rw [if_neg (by omega)]
      simp
    have hent : impl_EntriesFrom.f p' q' l' (wrap64 (p' + 1)) = some l' := by
      rw [w64 (by omega) (by omega), impl_entriesfrom p' q' l' (p' + 1) (by omega) (by omega) (by omega)]
      unfold entriesFrom
      by_cases hz : l'.length = 0
      · rw [if_neg (by omega), List.eq_nil_of_length_eq_zero hz]
      · rw [if_pos (by omega), show (p' + 1 - p' - 1).toNat = 0 by omega]
        rfl
    refine ev_step (fun k => by simp only [laws_FnLogCut.j1]; exact rfl) ?_
    refine ev_neg (by simp) ?_
    refine ev_bind ed2 ?_
    refine ev_bind (ev_all (fun k => spec_lastof p2 q2 l2 (by omega))) ?_
    refine ev_bind (ev_all (fun k => hr)) ?_
    refine ev_bind (ev_all (fun k => hr2)) ?_
    refine ev_pos (by simp) ?_
    refine ev_bind (ev_all (fun k => hself)) ?_
    refine ev_pos (by rfl) ?_
    refine ev_bind (ev_all (fun k => hent)) ?_
    exact ev_eq (ev_some _) (by simp)
  refine ev_bind e1 ?_
  refine ev_bind (ev_all (fun k => hcut)) ?_
  refine ev_bind (ev_all (fun k => hcut2)) ?_
  refine ev_bind (same_log p' q' l' (by omega)) ?_
  refine ev_pos (by rfl) ?_
  refine ev_bind (ev_all (fun k => impl_lastof p q l (by omega))) ?_
  refine ev_bind (ev_all (fun k => impl_lastof p' q' l' (by omega))) ?_
  rw [hlast]
  refine ev_pos rfl ?_
  refine ev_pos rfl ?_
  by_cases h : p' = p
  · exact ev_pos h tail
  · refine ev_neg h ?_
    have hx3 : (p' != x) = false := by
      rcases hbase with h2 | h2
      · exact absurd h2 h
      · simp [h2.1]
    rw [hx3]
    exact tail

end Go.Proofs.Ytphlmbhjeoljoaa.Pure
