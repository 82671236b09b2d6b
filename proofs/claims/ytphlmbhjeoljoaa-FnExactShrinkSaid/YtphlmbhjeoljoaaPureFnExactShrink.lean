/- Shrink of the program and of the reference make the same of every row of messages, in memory of their own, and leave the row alone: no conditions. -/
import Derived.Test.YtphlmbhjeoljoaaOpnFnExactShrink
import Derived.Test.YtphlmbhjeoljoaaPFnExactShrinkx
namespace Go.Proofs.Ytphlmbhjeoljoaa.Pure
open Go.RowKit Go.Proofs.Ytphlmbhjeoljoaa.PFnExactShrink Go.Proofs.YtphlmbhjeoljoaaW.PrintWords Go.Proofs.YtphlmbhjeoljoaaW.PrintLast Go.Proofs.YtphlmbhjeoljoaaW.PrintMore Go.Proofs.Ytphlmbhjeoljoaa.OpnFnExactShrink

theorem w64 {x : Int} (h0 : -9223372036854775808 ≤ x) (h1 : x ≤ 9223372036854775807) : wrap64 x = x := by
  unfold wrap64
  omega

theorem wf_i64 {a : Int} (h : (Lit.int .i64 a).wf = true) : -9223372036854775808 ≤ a ∧ a ≤ 9223372036854775807 := by
  simp [Lit.wf] at h
  have h1 : IntKind.min .i64 = -9223372036854775808 := by decide
  have h2 : IntKind.max .i64 = 9223372036854775807 := by decide
  omega


/-- From some number of rounds on, f tells v. -/
def Ev {α : Type} (f : Nat → Option α) (v : α) : Prop := ∃ k0, ∀ k, k0 ≤ k → f k = some v
theorem ev_of {α : Type} {f : Nat → Option α} {v : α} (n : Nat) (h : ∀ k, n < k → f k = some v) : Ev f v := ⟨n + 1, fun k hk => h k (by omega)⟩
theorem ev_all {α : Type} {f : Nat → Option α} {v : α} (h : ∀ k, f k = some v) : Ev f v := ⟨0, fun k _ => h k⟩
theorem ev_some {α : Type} (v : α) : Ev (fun _ => some v) v := ⟨0, fun _ _ => rfl⟩
theorem ev_eq {α : Type} {f : Nat → Option α} {v u : α} (h : Ev f v) (e : v = u) : Ev f u := e ▸ h
theorem ev_bind {α β : Type} {f : Nat → Option α} {g : Nat → α → Option β} {a : α} {b : β} (hf : Ev f a) (hg : Ev (fun k => g k a) b) : Ev (fun k => (f k).bind (g k)) b := by
  obtain ⟨m, hm⟩ := hf
  obtain ⟨n, hn⟩ := hg
  refine ⟨m + n, fun k hk => ?_⟩
  show (f k).bind (g k) = _
  rw [hm k (by omega)]
  exact hn k (by omega)
theorem ev_step {α : Type} {f g : Nat → Option α} {v : α} (e : ∀ k, f (k + 1) = g k) (h : Ev g v) : Ev f v := by
  obtain ⟨n, hn⟩ := h
  refine ⟨n + 1, fun k hk => ?_⟩
  obtain ⟨k, rfl⟩ : ∃ m, k = m + 1 := ⟨k - 1, by omega⟩
  rw [e]; exact hn k (by omega)
theorem ev_pos {α : Type} {f g : Nat → Option α} {v : α} {c : Prop} [Decidable c] (hc : c) (h : Ev f v) : Ev (fun k => if c then f k else g k) v := by simpa only [if_pos hc] using h
theorem ev_neg {α : Type} {f g : Nat → Option α} {v : α} {c : Prop} [Decidable c] (hc : ¬ c) (h : Ev g v) : Ev (fun k => if c then f k else g k) v := by simpa only [if_neg hc] using h
theorem ev_tt {α : Type} {f g : Nat → Option α} {v : α} (h : Ev f v) : Ev (fun k => if true = true then f k else g k) v := ev_pos rfl h

theorem drop_Msg (l : List S67) (i : Int) (h0 : 0 ≤ i) (h1 : i < l.length) : l.drop i.toNat = rd_T67 l i :: l.drop (i + 1).toNat := by
  rw [List.drop_eq_getElem_cons (by omega)]
  congr 1
  · unfold rd_T67
    rw [List.getD_eq_getElem?_getD, List.getElem?_eq_getElem (by omega)]
    rfl
  · congr 1
    omega

/-- From lo to hi. -/
def inR (a lo hi : Int) : Bool := decide (lo ≤ a) && decide (a ≤ hi)

theorem spec_in (a lo hi : Int) : spec_l1In.f a lo hi = some (inR a lo hi) := by
  unfold spec_l1In.f inR
  by_cases h : a ≥ lo
  · rw [if_pos h]; simp [h]
  · rw [if_neg h]; simp; omega

theorem spec_value (a : Int) : spec_l1Value.f a = some (inR a (-1000000000) 1000000000) := by
  unfold spec_l1Value.f
  rw [spec_in]; rfl

theorem impl_in (a lo hi : Int) : impl_within.f a lo hi = some (inR a lo hi) := by
  unfold impl_within.f inR
  by_cases h : a ≥ lo
  · rw [if_pos h]; simp [h]
  · rw [if_neg h]; simp; omega

theorem impl_key (a : Int) : impl_isKey.f a = some (inR a 0 999) := by
  unfold impl_isKey.f
  rw [impl_in]; rfl

theorem impl_num (a : Int) : impl_isNum.f a = some (inR a (-1000000000) 1000000000) := by
  unfold impl_isNum.f
  rw [impl_in]; rfl

/-- MsgOk, as the document says it. -/
def msgOk (op k v : Int) : Bool := inR op 1 4 && inR k 0 999 && inR v (-1000000000) 1000000000 && (decide (v = 0) || decide (op = 1) || decide (op = 3))

theorem spec_msgok (op k v : Int) : spec_MsgOk.f op k v = some (msgOk op k v) := by
  unfold spec_MsgOk.f msgOk
  simp only [spec_in, spec_value, Option.bind_some]
  cases inR op 1 4 <;> cases inR k 0 999 <;> cases inR v (-1000000000) 1000000000 <;> simp
  by_cases h : v = 0 <;> by_cases h1 : op = 1 <;> by_cases h3 : op = 3 <;> simp_all

theorem impl_msgok (op k v : Int) (n : Nat) (hn : 1 < n) : impl_MsgOk.f n op k v = some (msgOk op k v) := by
  obtain ⟨n, rfl⟩ : ∃ m, n = m + 1 := ⟨n - 1, by omega⟩
  unfold impl_MsgOk.f msgOk
  simp only [impl_key, impl_num, impl_MsgOk.j0, Option.bind_some]
  have e1 : inR 1 1 4 = true := rfl
  have e2 : inR 2 1 4 = true := rfl
  have e3 : inR 3 1 4 = true := rfl
  have e4 : inR 4 1 4 = true := rfl
  have e0 : inR 0 (-1000000000) 1000000000 = true := rfl
  by_cases h1 : op = 1
  · subst h1
    cases inR k 0 999 <;> simp [e1]
  · by_cases h3 : op = 3
    · subst h3
      cases inR k 0 999 <;> simp [e3]
    · by_cases h2 : op = 2
      · subst h2
        by_cases hv : v = 0
        · subst hv; cases inR k 0 999 <;> simp [e2, e0]
        · cases inR k 0 999 <;> simp [hv]
      · by_cases h4 : op = 4
        · subst h4
          by_cases hv : v = 0
          · subst hv; cases inR k 0 999 <;> simp [e4, e0]
          · cases inR k 0 999 <;> simp [hv]
        · have : inR op 1 4 = false := by
            unfold inR
            simp; omega
          simp [this, h1, h2, h3, h4]

def clampN (x : Int) : Int := if (if x < 1000000000 then x else 1000000000) > -1000000000 then (if x < 1000000000 then x else 1000000000) else -1000000000

theorem spec_clamp (x : Int) : spec_l1Clamp.f x = some (clampN x) := by
  unfold spec_l1Clamp.f spec_l1Min.f spec_l1Max.f clampN
  by_cases h : x < 1000000000
  · simp only [if_pos h, Option.bind_some]
    split <;> rfl
  · simp only [if_neg h, Option.bind_some]
    rfl

theorem impl_limit (x : Int) : impl_limited.f x = some (clampN x) := by
  unfold impl_limited.f clampN mx mn
  congr 1
  split <;> split <;> split <;> omega

/-- The place of the first element that is such; -1 without one. -/
def idxBy (p : S67 → Bool) : List S67 → Int → Int
  | [], _ => -1
  | x :: r, i => if p x = true then i else idxBy p r (i + 1)
theorem idxBy_cases (p : S67 → Bool) (l : List S67) : ∀ i : Int, (idxBy p l i = -1 ∧ ∀ x ∈ l, p x = false) ∨ (∃ j : Nat, idxBy p l i = i + j ∧ j < l.length ∧ (∀ x ∈ l.take j, p x = false) ∧ p (rd_T67 l j) = true) := by
  induction l with
  | nil => intro i; exact .inl ⟨rfl, by simp⟩
  | cons x r ih =>
    intro i
    simp only [idxBy]
    by_cases h : p x = true
    · rw [if_pos h]
      exact .inr ⟨0, by omega, by simp, by simp, h⟩
    · rw [if_neg h]
      have hf : p x = false := by simpa using h
      rcases ih (i + 1) with ⟨h1, h2⟩ | ⟨j, h1, h2, h3, h4⟩
      · refine .inl ⟨h1, fun y hy => ?_⟩
        rcases List.mem_cons.1 hy with rfl | hy
        · exact hf
        · exact h2 y hy
      · refine .inr ⟨j + 1, by omega, by simp; omega, fun y hy => ?_, h4⟩
        rw [List.take_succ_cons] at hy
        rcases List.mem_cons.1 hy with rfl | hy
        · exact hf
        · exact h3 y hy
/-- A message that stays where messages are shrunk. -/
def stays (m : S67) : Bool := msgOk m.f0 m.f1 m.f2 && !(m.f0 == 4)
def setsKey (k : Int) (x : S67) : Bool := decide (x.f1 = k) && (decide (x.f0 = 1) || decide (x.f0 = 2))
def overBy (k : Int) (r : List S67) : Bool := r.any (fun x => msgOk x.f0 x.f1 x.f2 && setsKey k x)
/-- A message added to those that stay. -/
def addTo (out : List S67) (m : S67) : List S67 :=
  let at_ := idxBy (fun x => decide (x.f1 = m.f1)) out 0
  if at_ ≥ 0 ∧ (rd_T67 out at_).f0 = 1 ∧ m.f0 = 3 then out.set at_.toNat ⟨(rd_T67 out at_).f0, (rd_T67 out at_).f1, clampN (wrap64 ((rd_T67 out at_).f2 + m.f2))⟩ else out ++ [m]
def shrinkFrom : List S67 → List S67 → List S67
  | out, [] => out
  | out, m :: r => if stays m = true ∧ overBy m.f1 r = false then shrinkFrom (addTo out m) r else shrinkFrom out r
def shrinkOf (l : List S67) : List S67 := shrinkFrom [] l
theorem addTo_len (out : List S67) (m : S67) : (addTo out m).length ≤ out.length + 1 := by
  unfold addTo
  simp only
  split <;> simp
theorem shrinkFrom_len (l : List S67) : ∀ out, (shrinkFrom out l).length ≤ out.length + l.length := by
  induction l with
  | nil => intro out; simp [shrinkFrom]
  | cons m r ih =>
    intro out
    simp only [shrinkFrom, List.length_cons]
    split
    · have := ih (addTo out m)
      have := addTo_len out m
      omega
    · have := ih out
      omega
/-- The same over those that stay alone. -/
def shrinkStay : List S67 → List S67 → List S67
  | out, [] => out
  | out, m :: r => if r.any (setsKey m.f1) = true then shrinkStay out r else shrinkStay (addTo out m) r
theorem over_filter (k : Int) (r : List S67) : (r.filter stays).any (setsKey k) = overBy k r := by
  unfold overBy
  induction r with
  | nil => rfl
  | cons x r ih =>
    rw [List.any_cons, List.filter_cons]
    by_cases h : stays x = true
    · rw [if_pos h, List.any_cons, ih]
      have : msgOk x.f0 x.f1 x.f2 = true := by simp [stays] at h; exact h.1
      rw [this]; simp
    · rw [if_neg h, ih]
      have : (msgOk x.f0 x.f1 x.f2 && setsKey k x) = false := by
        by_cases ho : msgOk x.f0 x.f1 x.f2 = true
        · have h4 : x.f0 = 4 := by simp [stays, ho] at h; exact h
          simp [setsKey, h4]
        · simp [ho]
      rw [this]; simp
theorem shrink_stay (l : List S67) : ∀ out, shrinkStay out (l.filter stays) = shrinkFrom out l := by
  induction l with
  | nil => intro out; rfl
  | cons m r ih =>
    intro out
    rw [List.filter_cons]
    simp only [shrinkFrom]
    by_cases h : stays m = true
    · rw [if_pos h]
      simp only [shrinkStay]
      rw [over_filter, ih, ih]
      by_cases ho : overBy m.f1 r = true
      · rw [if_pos ho, if_neg (fun e => by rw [ho] at e; cases e.2)]
      · rw [if_neg ho, if_pos ⟨h, by simpa using ho⟩]
    · rw [if_neg h, if_neg (fun e => h e.1), ih]

theorem spec_over_l0 (l : List S67) (j : Int) (hj0 : 0 ≤ j) (hj : j < l.length) (hl : l.length ≤ 140737488355328) : ∀ (d : Nat) (i : Int), 0 ≤ i → i ≤ l.length → (l.length : Int) - i = d → Ev (fun k => spec_l1Over.l0 k l j i) (overBy (rd_T67 l j).f1 (l.drop i.toNat)) := by
  intro d
  induction d with
  | zero =>
    intro i h0 h1 hd
    rw [List.drop_of_length_le (by omega)]
    exact ev_step (fun k => by simp only [spec_l1Over.l0]; exact rfl) (ev_neg (by omega) (ev_some _))
  | succ d ih =>
    intro i h0 h1 hd
    have wi : wrap64 (i + 1) = i + 1 := w64 (by omega) (by omega)
    have go := ih (i + 1) (by omega) (by omega) (by omega)
    rw [drop_Msg l i h0 (by omega)]
    have hcons : overBy (rd_T67 l j).f1 (rd_T67 l i :: l.drop (i + 1).toNat) = ((msgOk (rd_T67 l i).f0 (rd_T67 l i).f1 (rd_T67 l i).f2 && setsKey (rd_T67 l j).f1 (rd_T67 l i)) || overBy (rd_T67 l j).f1 (l.drop (i + 1).toNat)) := by
      unfold overBy
      rw [List.any_cons]
    rw [hcons]
    refine ev_step (fun k => by simp only [spec_l1Over.l0, wi]; exact rfl) ?_
    refine ev_pos (by omega) ?_
    refine ev_pos h0 ?_
    refine ev_bind (ev_all (fun k => spec_msgok _ _ _)) ?_
    by_cases ho : msgOk (rd_T67 l i).f0 (rd_T67 l i).f1 (rd_T67 l i).f2 = true
    · refine ev_pos ho ?_
      refine ev_pos hj0 ?_
      refine ev_pos hj ?_
      rw [ho]
      by_cases hk : (rd_T67 l i).f1 = (rd_T67 l j).f1
      · refine ev_pos hk ?_
        by_cases h1' : (rd_T67 l i).f0 = 1
        · exact ev_pos h1' (ev_eq (ev_some _) (by simp [setsKey, hk, h1']))
        · refine ev_neg h1' ?_
          by_cases h2' : (rd_T67 l i).f0 = 2
          · exact ev_pos h2' (ev_eq (ev_some _) (by simp [setsKey, hk, h2']))
          · refine ev_neg h2' (ev_eq go ?_)
            simp [setsKey, h1', h2']
      · refine ev_neg hk (ev_eq go ?_)
        simp [setsKey, hk]
    · refine ev_neg ho (ev_eq go ?_)
      simp [ho]
theorem spec_over (l : List S67) (j : Int) (hj0 : 0 ≤ j) (hj : j < l.length) (hl : l.length ≤ 140737488355328) : Ev (fun k => spec_l1Over.f k l j) (overBy (rd_T67 l j).f1 (l.drop (j + 1).toNat)) := by
  unfold spec_l1Over.f
  rw [w64 (by omega) (by omega)]
  exact spec_over_l0 l j hj0 hj hl ((l.length : Int) - (j + 1)).toNat (j + 1) (by omega) (by omega) (by omega)
theorem spec_first_l0 (l : List S67) (a : Int) (hl : l.length ≤ 140737488355328) : ∀ (d : Nat) (i : Int), 0 ≤ i → i ≤ l.length → (l.length : Int) - i = d → Ev (fun k => spec_l1First.l0 k l a i) (idxBy (fun x => decide (x.f1 = a)) (l.drop i.toNat) i) := by
  intro d
  induction d with
  | zero =>
    intro i h0 h1 hd
    rw [List.drop_of_length_le (by omega)]
    exact ev_step (fun k => by simp only [spec_l1First.l0]; exact rfl) (ev_neg (by omega) (ev_some _))
  | succ d ih =>
    intro i h0 h1 hd
    have wi : wrap64 (i + 1) = i + 1 := w64 (by omega) (by omega)
    rw [drop_Msg l i h0 (by omega)]
    simp only [idxBy]
    refine ev_step (fun k => by simp only [spec_l1First.l0, wi]; exact rfl) ?_
    refine ev_pos (by omega) ?_
    refine ev_pos h0 ?_
    by_cases hk : (rd_T67 l i).f1 = a
    · rw [if_pos (by simpa using hk)]
      exact ev_pos hk (ev_some _)
    · rw [if_neg (by simpa using hk)]
      exact ev_neg hk (ih (i + 1) (by omega) (by omega) (by omega))
theorem spec_first (l : List S67) (a : Int) (hl : l.length ≤ 140737488355328) : Ev (fun k => spec_l1First.f k l a) (idxBy (fun x => decide (x.f1 = a)) l 0) := by
  unfold spec_l1First.f
  exact spec_first_l0 l a hl l.length 0 (by omega) (by omega) (by omega)
theorem spec_shrink_l0 (l : List S67) (hl : l.length ≤ 1048600) : ∀ (d : Nat) (out : List S67) (i : Int), 0 ≤ i → i ≤ l.length → (l.length : Int) - i = d → out.length + d ≤ 1048600 → Ev (fun k => spec_Shrink.l0 k l out i) (shrinkFrom out (l.drop i.toNat)) := by
  intro d
  induction d with
  | zero =>
    intro out i h0 h1 hd ho
    rw [List.drop_of_length_le (by omega)]
    exact ev_step (fun k => by simp only [spec_Shrink.l0]; exact rfl) (ev_neg (by omega) (ev_some _))
  | succ d ih =>
    intro out i h0 h1 hd ho
    have wi : wrap64 (i + 1) = i + 1 := w64 (by omega) (by omega)
    rw [drop_Msg l i h0 (by omega)]
    have eta : (⟨(rd_T67 l i).f0, (rd_T67 l i).f1, (rd_T67 l i).f2⟩ : S67) = rd_T67 l i := rfl
    have skip : ∀ a b c : Int, stays (rd_T67 l i) = false ∨ overBy (rd_T67 l i).f1 (l.drop (i + 1).toNat) = true → Ev (fun k => spec_Shrink.j1 k l out i true a b c) (shrinkFrom out (rd_T67 l i :: l.drop (i + 1).toNat)) := by
      intro a b c h
      simp only [shrinkFrom]
      rw [if_neg (fun e => by rcases h with h | h <;> simp [h] at e)]
      refine ev_step (fun k => by simp only [spec_Shrink.j1, wi]; exact rfl) ?_
      exact ev_pos trivial (ih out (i + 1) (by omega) (by omega) (by omega) (by omega))
    refine ev_step (fun k => by simp only [spec_Shrink.l0]; exact rfl) ?_
    refine ev_pos (by omega) ?_
    refine ev_pos h0 ?_
    refine ev_bind (ev_all (fun k => spec_msgok _ _ _)) ?_
    by_cases hm : msgOk (rd_T67 l i).f0 (rd_T67 l i).f1 (rd_T67 l i).f2 = true
    case neg => exact ev_neg hm (skip _ _ _ (.inl (by simp [stays, hm])))
    refine ev_pos hm ?_
    by_cases h4 : (rd_T67 l i).f0 = 4
    case pos => exact ev_pos h4 (skip _ _ _ (.inl (by simp [stays, h4])))
    refine ev_neg h4 ?_
    have hst : stays (rd_T67 l i) = true := by simp [stays, hm, h4]
    refine ev_bind (spec_over l i h0 (by omega) (by omega)) ?_
    by_cases hov : overBy (rd_T67 l i).f1 (l.drop (i + 1).toNat) = true
    case pos =>
      have h := skip (rd_T67 l i).f0 (rd_T67 l i).f1 (rd_T67 l i).f2 (.inr hov)
      rw [hov]
      exact h
    have hof : overBy (rd_T67 l i).f1 (l.drop (i + 1).toNat) = false := by simpa using hov
    rw [hof]
    simp only [shrinkFrom]
    rw [if_pos ⟨hst, hof⟩]
    refine ev_step (fun k => by simp only [spec_Shrink.j1, wi, eta]; exact rfl) ?_
    refine ev_neg (by simp) ?_
    refine ev_bind (spec_first out _ (by omega)) ?_
    have go : ∀ out' : List S67, out'.length + d ≤ 1048600 → Ev (fun k => spec_Shrink.l0 k l out' (i + 1)) (shrinkFrom out' (l.drop (i + 1).toNat)) := fun out' h => ih out' (i + 1) (by omega) (by omega) (by omega) h
    have app : addTo out (rd_T67 l i) = out ++ [rd_T67 l i] → Ev (fun k => if out.length < 5864062014805 then spec_Shrink.l0 k l (out ++ [rd_T67 l i]) (i + 1) else none) (shrinkFrom (addTo out (rd_T67 l i)) (l.drop (i + 1).toNat)) := by
      intro e
      rw [e]
      exact ev_pos (by omega) (go _ (by simp; omega))
    have hx := idxBy_cases (fun x => decide (x.f1 = (rd_T67 l i).f1)) out 0
    have hadd : addTo out (rd_T67 l i) = if idxBy (fun x => decide (x.f1 = (rd_T67 l i).f1)) out 0 ≥ 0 ∧ (rd_T67 out (idxBy (fun x => decide (x.f1 = (rd_T67 l i).f1)) out 0)).f0 = 1 ∧ (rd_T67 l i).f0 = 3 then out.set (idxBy (fun x => decide (x.f1 = (rd_T67 l i).f1)) out 0).toNat ⟨(rd_T67 out (idxBy (fun x => decide (x.f1 = (rd_T67 l i).f1)) out 0)).f0, (rd_T67 out (idxBy (fun x => decide (x.f1 = (rd_T67 l i).f1)) out 0)).f1, clampN (wrap64 ((rd_T67 out (idxBy (fun x => decide (x.f1 = (rd_T67 l i).f1)) out 0)).f2 + (rd_T67 l i).f2))⟩ else out ++ [rd_T67 l i] := rfl
    generalize idxBy (fun x => decide (x.f1 = (rd_T67 l i).f1)) out 0 = t at *
    have ht : t = -1 ∨ (0 ≤ t ∧ t < out.length) := by
      rcases hx with ⟨h, _⟩ | ⟨j, h, h2, _⟩
      · exact .inl h
      · exact .inr ⟨by omega, by omega⟩
    by_cases h5 : t ≥ 0
    case neg => exact ev_neg h5 (app (by rw [hadd, if_neg (fun e => h5 e.1)]))
    refine ev_pos h5 ?_
    refine ev_pos h5 ?_
    refine ev_pos (by omega) ?_
    by_cases h6 : (rd_T67 out t).f0 = 1
    case neg => exact ev_neg h6 (app (by rw [hadd, if_neg (fun e => h6 e.2.1)]))
    refine ev_pos h6 ?_
    by_cases h7 : (rd_T67 l i).f0 = 3
    case neg => exact ev_neg h7 (app (by rw [hadd, if_neg (fun e => h7 e.2.2)]))
    refine ev_pos h7 ?_
    refine ev_bind (ev_all (fun k => spec_clamp _)) ?_
    rw [hadd, if_pos ⟨h5, h6, h7⟩]
    exact go _ (by simp; omega)
theorem spec_shrink (l : List S67) (hl : l.length ≤ 1048600) : Ev (fun k => spec_Shrink.f k l) (shrinkOf l) := by
  unfold spec_Shrink.f
  exact spec_shrink_l0 l hl l.length [] 0 (by omega) (by omega) (by omega) (by simp; omega)

theorem impl_del (k : Nat) (hk : 1 < k) (m : S67) : impl_Shrink_f1.f k m.f0 m.f1 m.f2 = some (!stays m) := by
  unfold impl_Shrink_f1.f stays
  rw [impl_msgok _ _ _ k hk]
  simp only [Option.bind_some]
  by_cases h : msgOk m.f0 m.f1 m.f2 = true
  · rw [if_pos h, h]; simp
  · rw [if_neg h]; simp [h]
theorem impl_del_ev (m : S67) : Ev (fun k => impl_Shrink_f1.f k m.f0 m.f1 m.f2) (!stays m) := ev_of 1 (fun k hk => impl_del k hk m)
theorem impl_idel_l0 (l : List S67) (hl : l.length ≤ 140737488355328) : ∀ (d : Nat) (i : Int), 0 ≤ i → i ≤ l.length → (l.length : Int) - i = d → Ev (fun k => slices_IndexFunc_Msg_96.l0 k l l.length i) (idxBy (fun x => !stays x) (l.drop i.toNat) i) := by
  intro d
  induction d with
  | zero =>
    intro i h0 h1 hd
    rw [List.drop_of_length_le (by omega)]
    exact ev_step (fun k => by simp only [slices_IndexFunc_Msg_96.l0]; exact rfl) (ev_neg (by omega) (ev_some _))
  | succ d ih =>
    intro i h0 h1 hd
    have wi : wrap64 (i + 1) = i + 1 := w64 (by omega) (by omega)
    rw [drop_Msg l i h0 (by omega)]
    simp only [idxBy]
    refine ev_step (fun k => by simp only [slices_IndexFunc_Msg_96.l0, wi]; exact rfl) ?_
    refine ev_pos (by omega) ?_
    refine ev_pos h0 ?_
    refine ev_pos (by omega) ?_
    refine ev_bind (impl_del_ev _) ?_
    by_cases hk : (!stays (rd_T67 l i)) = true
    · rw [if_pos hk]
      exact ev_pos hk (ev_some _)
    · rw [if_neg hk]
      exact ev_neg hk (ih (i + 1) (by omega) (by omega) (by omega))
theorem filter_none (p : S67 → Bool) (l : List S67) (h : ∀ x ∈ l, p x = true) : l.filter p = l := List.filter_eq_self.2 h
theorem impl_delf_l0 : ∀ (d : Nat) (l : List S67) (i j : Int), l.length ≤ 140737488355328 → 0 ≤ i → i < j → j ≤ l.length → (l.length : Int) - j = d → Ev (fun k => slices_DeleteFunc_Msg_96.l0 k l i j) (l.take i.toNat ++ (l.drop j.toNat).filter stays) := by
  intro d
  induction d with
  | zero =>
    intro l i j hl h0 h1 h2 hd
    rw [List.drop_of_length_le (by omega)]
    refine ev_step (fun k => by simp only [slices_DeleteFunc_Msg_96.l0]; exact rfl) ?_
    refine ev_neg (by omega) ?_
    refine ev_pos h0 ?_
    exact ev_pos (by omega) (ev_eq (ev_some _) (by simp))
  | succ d ih =>
    intro l i j hl h0 h1 h2 hd
    have wi : wrap64 (i + 1) = i + 1 := w64 (by omega) (by omega)
    have wj : wrap64 (j + 1) = j + 1 := w64 (by omega) (by omega)
    have eta : (⟨(rd_T67 l j).f0, (rd_T67 l j).f1, (rd_T67 l j).f2⟩ : S67) = rd_T67 l j := rfl
    rw [drop_Msg l j (by omega) (by omega), List.filter_cons]
    refine ev_step (fun k => by simp only [slices_DeleteFunc_Msg_96.l0, wi, wj, eta]; exact rfl) ?_
    refine ev_pos (by omega) ?_
    refine ev_pos (by omega) ?_
    refine ev_bind (impl_del_ev _) ?_
    by_cases hs : stays (rd_T67 l j) = true
    · rw [if_pos hs]
      refine ev_neg (by simp [hs]) ?_
      refine ev_pos h0 ?_
      refine ev_pos (by omega) ?_
      have h := ih (l.set i.toNat (rd_T67 l j)) (i + 1) (j + 1) (by simpa using hl) (by omega) (by omega) (by simp; omega) (by simp; omega)
      refine ev_eq h ?_
      rw [List.drop_set_of_lt (by omega), show (i + 1).toNat = i.toNat + 1 by omega, List.take_set, List.take_succ_eq_append_getElem (by omega), List.set_append_right _ _ (by rw [List.length_take]; omega)]
      have hi : i.toNat - (l.take i.toNat).length = 0 := by rw [List.length_take]; omega
      rw [hi]
      simp
    · rw [if_neg hs]
      refine ev_pos (by simp [hs]) ?_
      exact ih l i (j + 1) hl h0 (by omega) (by omega) (by omega)
theorem impl_delf (l : List S67) (hl : l.length ≤ 1048600) : Ev (fun k => slices_DeleteFunc_Msg_96.f k l) (l.filter stays) := by
  unfold slices_DeleteFunc_Msg_96.f slices_IndexFunc_Msg_96.f
  refine ev_bind (impl_idel_l0 l (by omega) l.length 0 (by omega) (by omega) (by omega)) ?_
  rw [show l.drop (0 : Int).toNat = l from rfl]
  rcases idxBy_cases (fun x => !stays x) l 0 with ⟨h1, h2⟩ | ⟨j, h1, h2, h3, h4⟩
  · rw [h1]
    refine ev_pos rfl (ev_eq (ev_some _) ?_)
    exact (filter_none stays l (fun x hx => by simpa using h2 x hx)).symm
  · rw [h1, show (0 : Int) + (j : Int) = (j : Int) by omega, w64 (by omega) (by omega)]
    refine ev_neg (by omega) ?_
    refine ev_eq (impl_delf_l0 ((l.length : Int) - ((j : Int) + 1)).toNat l j ((j : Int) + 1) (by omega) (by omega) (by omega) (by omega) (by omega)) ?_
    have hl1 : l = l.take j ++ (rd_T67 l (j : Nat) :: l.drop (j + 1)) := by
      have := drop_Msg l (j : Nat) (by omega) (by omega)
      simp only [Int.toNat_natCast] at this
      rw [show ((j : Int) + 1).toNat = j + 1 by omega] at this
      rw [← this, List.take_append_drop]
    have hst : stays (rd_T67 l (j : Nat)) = false := by simpa using h4
    conv => rhs; rw [hl1]
    rw [List.filter_append, List.filter_cons, hst, filter_none stays (l.take j) (fun x hx => by simpa using h3 x hx)]
    simp only [Bool.false_eq_true, if_false, Int.toNat_natCast]
    rw [show ((j : Int) + 1).toNat = j + 1 by omega]
theorem impl_any_l0 (l : List S67) (a b c : Int) (hl : l.length ≤ 140737488355328) : ∀ (d : Nat) (i : Int), 0 ≤ i → i ≤ l.length → (l.length : Int) - i = d → Ev (fun k => slices_IndexFunc_Msg_98.l0 k l l.length i a b c) (idxBy (setsKey b) (l.drop i.toNat) i) := by
  intro d
  induction d with
  | zero =>
    intro i h0 h1 hd
    rw [List.drop_of_length_le (by omega)]
    exact ev_step (fun k => by simp only [slices_IndexFunc_Msg_98.l0]; exact rfl) (ev_neg (by omega) (ev_some _))
  | succ d ih =>
    intro i h0 h1 hd
    have wi : wrap64 (i + 1) = i + 1 := w64 (by omega) (by omega)
    rw [drop_Msg l i h0 (by omega)]
    simp only [idxBy]
    have hf : impl_Shrink_f2.f (rd_T67 l i).f0 (rd_T67 l i).f1 (rd_T67 l i).f2 a b c = some (setsKey b (rd_T67 l i)) := by
      unfold impl_Shrink_f2.f impl_sets.f setsKey
      by_cases h : (rd_T67 l i).f1 = b
      · rw [if_pos h]
        by_cases h1 : (rd_T67 l i).f0 = 1
        · rw [if_pos h1]; simp [h, h1]
        · rw [if_neg h1]
          simp only [Option.bind_some, h, h1]
          by_cases h2 : (rd_T67 l i).f0 = 2 <;> simp [h2]
      · rw [if_neg h]; simp [h]
    refine ev_step (fun k => by simp only [slices_IndexFunc_Msg_98.l0, wi, hf]; exact rfl) ?_
    refine ev_pos (by omega) ?_
    refine ev_pos h0 ?_
    refine ev_pos (by omega) ?_
    refine ev_bind (f := fun _ => some (setsKey b (rd_T67 l i))) (ev_some _) ?_
    by_cases hk : setsKey b (rd_T67 l i) = true
    · rw [if_pos hk]
      exact ev_pos hk (ev_some _)
    · rw [if_neg hk]
      exact ev_neg hk (ih (i + 1) (by omega) (by omega) (by omega))
theorem impl_any (l : List S67) (a b c : Int) (hl : l.length ≤ 140737488355328) : Ev (fun k => slices_ContainsFunc_Msg_98.f k l a b c) (l.any (setsKey b)) := by
  unfold slices_ContainsFunc_Msg_98.f slices_IndexFunc_Msg_98.f
  refine ev_bind (impl_any_l0 l a b c hl l.length 0 (by omega) (by omega) (by omega)) (ev_eq (ev_some _) ?_)
  rw [show l.drop (0 : Int).toNat = l from rfl]
  rcases idxBy_cases (setsKey b) l 0 with ⟨h1, h2⟩ | ⟨j, h1, h2, _, h4⟩
  · rw [h1]
    have : l.any (setsKey b) = false := by
      rw [List.any_eq_false]
      intro x hx
      simp [h2 x hx]
    rw [this]; simp
  · rw [h1]
    have : l.any (setsKey b) = true := List.any_eq_true.2 ⟨_, by unfold rd_T67; rw [List.getD_eq_getElem?_getD, List.getElem?_eq_getElem (by omega)]; exact List.getElem_mem _, h4⟩
    rw [this]; simp
theorem impl_first_l0 (l : List S67) (a b c : Int) (hl : l.length ≤ 140737488355328) : ∀ (d : Nat) (i : Int), 0 ≤ i → i ≤ l.length → (l.length : Int) - i = d → Ev (fun k => slices_IndexFunc_Msg_101.l0 k l l.length i a b c) (idxBy (fun x => decide (x.f1 = b)) (l.drop i.toNat) i) := by
  intro d
  induction d with
  | zero =>
    intro i h0 h1 hd
    rw [List.drop_of_length_le (by omega)]
    exact ev_step (fun k => by simp only [slices_IndexFunc_Msg_101.l0]; exact rfl) (ev_neg (by omega) (ev_some _))
  | succ d ih =>
    intro i h0 h1 hd
    have wi : wrap64 (i + 1) = i + 1 := w64 (by omega) (by omega)
    rw [drop_Msg l i h0 (by omega)]
    simp only [idxBy]
    refine ev_step (fun k => by simp only [slices_IndexFunc_Msg_101.l0, wi, impl_Shrink_f3.f, Option.bind_some]; exact rfl) ?_
    refine ev_pos (by omega) ?_
    refine ev_pos h0 ?_
    refine ev_pos (by omega) ?_
    by_cases hk : (rd_T67 l i).f1 = b
    · rw [if_pos (by simpa using hk)]
      exact ev_pos (by simpa using hk) (ev_some _)
    · rw [if_neg (by simpa using hk)]
      exact ev_neg (by simpa using hk) (ih (i + 1) (by omega) (by omega) (by omega))
theorem impl_first (l : List S67) (a b c : Int) (hl : l.length ≤ 140737488355328) : Ev (fun k => slices_IndexFunc_Msg_101.f k l a b c) (idxBy (fun x => decide (x.f1 = b)) l 0) := by
  unfold slices_IndexFunc_Msg_101.f
  exact impl_first_l0 l a b c hl l.length 0 (by omega) (by omega) (by omega)
theorem impl_shrink_l0 (l : List S67) (hl : l.length ≤ 1048600) : ∀ (d : Nat) (out : List S67) (i : Int), 0 ≤ i → i ≤ l.length → (l.length : Int) - i = d → out.length + d ≤ 1048600 → Ev (fun k => impl_Shrink.l0 k l out l l.length i) (shrinkStay out (l.drop i.toNat)) := by
  intro d
  induction d with
  | zero =>
    intro out i h0 h1 hd ho
    rw [List.drop_of_length_le (by omega)]
    exact ev_step (fun k => by simp only [impl_Shrink.l0]; exact rfl) (ev_neg (by omega) (ev_some _))
  | succ d ih =>
    intro out i h0 h1 hd ho
    have wi : wrap64 (i + 1) = i + 1 := w64 (by omega) (by omega)
    rw [drop_Msg l i h0 (by omega)]
    have eta : (⟨(rd_T67 l i).f0, (rd_T67 l i).f1, (rd_T67 l i).f2⟩ : S67) = rd_T67 l i := rfl
    have go : ∀ out' : List S67, out'.length + d ≤ 1048600 → Ev (fun k => impl_Shrink.l0 k l out' l l.length (i + 1)) (shrinkStay out' (l.drop (i + 1).toNat)) := fun out' h => ih out' (i + 1) (by omega) (by omega) (by omega) h
    simp only [shrinkStay]
    refine ev_step (fun k => by simp only [impl_Shrink.l0, wi, eta]; exact rfl) ?_
    refine ev_pos (by omega) ?_
    refine ev_pos h0 ?_
    refine ev_pos (by omega) ?_
    refine ev_pos (by omega) ?_
    refine ev_pos (by omega) ?_
    refine ev_bind (impl_any (l.drop (i + 1).toNat) _ _ _ (by simp; omega)) ?_
    by_cases hany : (l.drop (i + 1).toNat).any (setsKey (rd_T67 l i).f1) = true
    · rw [if_pos hany]
      exact ev_pos hany (go out (by omega))
    rw [if_neg hany]
    refine ev_neg hany ?_
    refine ev_bind (impl_first out _ _ _ (by omega)) ?_
    have app : addTo out (rd_T67 l i) = out ++ [rd_T67 l i] → Ev (fun k => if out.length < 5864062014805 then impl_Shrink.l0 k l (out ++ [rd_T67 l i]) l l.length (i + 1) else none) (shrinkStay (addTo out (rd_T67 l i)) (l.drop (i + 1).toNat)) := by
      intro e
      rw [e]
      exact ev_pos (by omega) (go _ (by simp; omega))
    have hx := idxBy_cases (fun x => decide (x.f1 = (rd_T67 l i).f1)) out 0
    have hadd : addTo out (rd_T67 l i) = if idxBy (fun x => decide (x.f1 = (rd_T67 l i).f1)) out 0 ≥ 0 ∧ (rd_T67 out (idxBy (fun x => decide (x.f1 = (rd_T67 l i).f1)) out 0)).f0 = 1 ∧ (rd_T67 l i).f0 = 3 then out.set (idxBy (fun x => decide (x.f1 = (rd_T67 l i).f1)) out 0).toNat ⟨(rd_T67 out (idxBy (fun x => decide (x.f1 = (rd_T67 l i).f1)) out 0)).f0, (rd_T67 out (idxBy (fun x => decide (x.f1 = (rd_T67 l i).f1)) out 0)).f1, clampN (wrap64 ((rd_T67 out (idxBy (fun x => decide (x.f1 = (rd_T67 l i).f1)) out 0)).f2 + (rd_T67 l i).f2))⟩ else out ++ [rd_T67 l i] := rfl
    generalize idxBy (fun x => decide (x.f1 = (rd_T67 l i).f1)) out 0 = t at *
    have ht : t = -1 ∨ (0 ≤ t ∧ t < out.length) := by
      rcases hx with ⟨h, _⟩ | ⟨j, h, h2, _⟩
      · exact .inl h
      · exact .inr ⟨by omega, by omega⟩
    by_cases h7 : (rd_T67 l i).f0 = 3
    case neg => exact ev_neg h7 (app (by rw [hadd, if_neg (fun e => h7 e.2.2)]))
    refine ev_pos h7 ?_
    by_cases h5 : t ≥ 0
    case neg => exact ev_neg h5 (app (by rw [hadd, if_neg (fun e => h5 e.1)]))
    refine ev_pos h5 ?_
    refine ev_pos h5 ?_
    refine ev_pos (by omega) ?_
    by_cases h6 : (rd_T67 out t).f0 = 1
    case neg => exact ev_neg h6 (app (by rw [hadd, if_neg (fun e => h6 e.2.1)]))
    refine ev_pos h6 ?_
    refine ev_bind (ev_all (fun k => impl_limit _)) ?_
    rw [hadd, if_pos ⟨h5, h6, h7⟩]
    exact go _ (by simp; omega)
theorem impl_shrink (l : List S67) (hl : l.length ≤ 1048600) : Ev (fun k => impl_Shrink.f k l) (shrinkOf l) := by
  unfold impl_Shrink.f slices_Clone_Msg.f shrinkOf
  rw [if_pos (by omega)]
  refine ev_bind (f := fun _ => some l) (ev_some l) ?_
  refine ev_bind (impl_delf l hl) ?_
  have hf : (l.filter stays).length ≤ l.length := List.length_filter_le _ _
  rw [← shrink_stay]
  exact impl_shrink_l0 (l.filter stays) (by omega) (l.filter stays).length [] 0 (by omega) (by omega) (by omega) (by simp; omega)

def cvMsg (x : S63) : S67 := (⟨x.f0, x.f1, x.f2⟩ : S67)

theorem toMsgS_l0 (d : Nat) : ∀ (k : Nat) (x : List S63) (y : List S67) (i : Int), 0 ≤ i → i ≤ x.length → y.length = x.length → (x.length : Int) - i = d → d < k → x.length ≤ 140737488355328 → (∀ j : Nat, (j : Int) < i → y[j]? = (x.map cvMsg)[j]?) → laws_toMsgS.l0 k x y i = some (x.map cvMsg) := by
  induction d with
  | zero =>
    intro k x y i h0 h1 hy hd hk hx h
    obtain ⟨k, rfl⟩ : ∃ m, k = m + 1 := ⟨k - 1, by omega⟩
    simp only [laws_toMsgS.l0]; rw [if_neg (by omega)]
    congr 1
    apply List.ext_getElem?
    intro j
    by_cases hj : j < x.length
    · exact h j (by omega)
    · rw [List.getElem?_eq_none (by omega), List.getElem?_eq_none (by simp; omega)]
  | succ d ih =>
    intro k x y i h0 h1 hy hd hk hx h
    obtain ⟨k, rfl⟩ : ∃ m, k = m + 1 := ⟨k - 1, by omega⟩
    simp only [laws_toMsgS.l0]
    rw [if_pos (by omega), if_pos h0]
    simp only [laws_toMsg.f, Option.bind_some]
    rw [if_pos (by omega), w64 (by omega) (by omega)]
    refine ih k x _ (i + 1) (by omega) (by omega) (by simpa using hy) (by omega) (by omega) hx (fun j hj => ?_)
    by_cases he : (j : Int) = i
    · have hj2 : (i : Int).toNat = j := by omega
      rw [hj2, List.getElem?_set_self (by omega), List.getElem?_map, List.getElem?_eq_getElem (by omega)]
      simp only [Option.map_some, rd_T63, hj2, List.getD_eq_getElem?_getD]
      rw [List.getElem?_eq_getElem (by omega)]
      rfl
    · rw [← h j (by omega), List.getElem?_set_ne (by omega)]

theorem toMsgS_all (x : List S63) (hx : x.length ≤ 1048576) (k : Nat) (hk : x.length < k) : laws_toMsgS.f k x = some (x.map cvMsg) := by
  unfold laws_toMsgS.f
  rw [if_pos (by omega), if_pos (by omega)]
  exact toMsgS_l0 x.length k x _ 0 (by omega) (by omega) (by simp) (by omega) (by omega) (by omega) (fun j hj => by omega)

theorem eqMsgS_l0 (d : Nat) : ∀ (k : Nat) (x : List S67) (i : Int), 0 ≤ i → i ≤ x.length → (x.length : Int) - i = d → d < k → x.length ≤ 140737488355328 → laws_eqMsgS.l0 k x x i = some true := by
  induction d with
  | zero =>
    intro k x i h0 h1 hd hk hx
    obtain ⟨k, rfl⟩ : ∃ m, k = m + 1 := ⟨k - 1, by omega⟩
    simp only [laws_eqMsgS.l0]; rw [if_neg (by omega)]
  | succ d ih =>
    intro k x i h0 h1 hd hk hx
    obtain ⟨k, rfl⟩ : ∃ m, k = m + 1 := ⟨k - 1, by omega⟩
    simp only [laws_eqMsgS.l0]
    rw [if_pos (by omega), if_pos h0, if_pos (by omega)]
    simp only [laws_eqMsg.f, Option.bind_some, if_true]
    rw [w64 (by omega) (by omega)]
    exact ih k x (i + 1) (by omega) (by omega) (by omega) (by omega) hx

theorem eqMsgS_self (x : List S67) (hx : x.length ≤ 140737488355328) (k : Nat) (hk : x.length < k) : laws_eqMsgS.f k x x = some true := by
  unfold laws_eqMsgS.f
  rw [if_pos rfl]
  exact eqMsgS_l0 x.length k x 0 (by omega) (by omega) (by omega) (by omega) hx

/-- The element that is marked with so much. -/
def markMsg (m : Int) : S67 := (⟨m, m + 1, m + 1 + 1⟩ : S67)

theorem rd_setMsg (x : List S67) (i : Int) (h0 : 0 ≤ i) (h1 : i < x.length) (e : S67) : rd_T67 (x.set (i : Int).toNat e) i = e := by
  unfold rd_T67
  rw [List.getD_eq_getElem?_getD, List.getElem?_set_self (by omega)]
  rfl

theorem markMsgS_l0 (d : Nat) : ∀ (k : Nat) (x : List S67) (a i : Int), 0 ≤ i → i ≤ x.length → (x.length : Int) - i = d → d < k → x.length ≤ 140737488355328 → 0 ≤ a → a + 3 * d ≤ 9223372036854775800 →
    ∃ y, laws_markMsgS.l0 k x a i = some (a + 3 * d, y) ∧ y.length = x.length ∧ (∀ j : Nat, (j : Int) < i → y[j]? = x[j]?) ∧ (∀ j : Nat, i ≤ j → j < x.length → rd_T67 y j = markMsg (a + 3 * (j - i))) := by
  induction d with
  | zero =>
    intro k x a i h0 h1 hd hk hx ha hb
    obtain ⟨k, rfl⟩ : ∃ m, k = m + 1 := ⟨k - 1, by omega⟩
    refine ⟨x, ?_, rfl, fun _ _ => rfl, fun j h h' => by omega⟩
    simp only [laws_markMsgS.l0]; rw [if_neg (by omega)]; simp
  | succ d ih =>
    intro k x a i h0 h1 hd hk hx ha hb
    obtain ⟨k, rfl⟩ : ∃ m, k = m + 1 := ⟨k - 1, by omega⟩
    have hs := rd_setMsg x i h0 (by omega)
    have e1 : wrap64 (a + 1) = a + 1 := w64 (by omega) (by omega)
    have e2 : wrap64 (a + 1 + 1) = a + 1 + 1 := w64 (by omega) (by omega)
    have e3 : wrap64 (a + 1 + 1 + 1) = a + 1 + 1 + 1 := w64 (by omega) (by omega)
    obtain ⟨y, hy, hl, hlo, hhi⟩ := ih k (x.set (i : Int).toNat (markMsg a)) (a + 3) (i + 1) (by omega) (by simp; omega) (by simp; omega) (by omega) (by simpa using hx) (by omega) (by omega)
    refine ⟨y, ?_, by simpa using hl, fun j hj => ?_, fun j hj hj' => ?_⟩
    · simp only [laws_markMsgS.l0]
      rw [if_pos (by omega), if_pos h0]
      simp only [Option.bind_some, hs, List.set_set, e1, e2, e3]
      rw [w64 (x := i + 1) (by omega) (by omega)]
      have hm : markMsg a = (⟨a, a + 1, a + 1 + 1⟩ : S67) := by unfold markMsg; rfl
      have hz : a + 1 + 1 + 1 = a + 3 := by omega
      rw [hz]
      simp only [hm] at hy
      refine Eq.trans ?_ (hy.trans ?_)
      · first | rfl | (congr 2; simp; omega) | (simp only [Int.add_assoc]; rfl)
      · congr 2
        omega
    · rw [hlo j (by omega), List.getElem?_set_ne (by omega)]
    · by_cases he : (j : Int) = i
      · unfold rd_T67
        rw [List.getD_eq_getElem?_getD, hlo _ (by omega), show ((j : Int)).toNat = i.toNat by omega, List.getElem?_set_self (by omega)]
        simp only [Option.getD_some]
        congr 1
        omega
      · rw [hhi j (by omega) (by simpa using hj')]
        congr 1
        omega

theorem markMsgS_only (x : List S67) (hx : x.length ≤ 140737488355328) (a : Int) (ha : 0 ≤ a) (hb : a ≤ 4611686018427387904) : ∃ y : List S67, ∀ k, x.length < k → laws_markMsgS.f k x a = some (a + 3 * (x.length : Int), y) := by
  obtain ⟨y, hy, hl, _, hhi⟩ := markMsgS_l0 x.length (x.length + 1) x a 0 (by omega) (by omega) (by omega) (by omega) hx (by omega) (by omega)
  refine ⟨y, fun k hk => ?_⟩
  unfold laws_markMsgS.f
  exact at_rounds (g := fun k => laws_markMsgS.l0 k x a 0) (fun k => laws_markMsgS.mono_l k _ _ _) (by omega) hy

theorem heldMsgS_l0 (d : Nat) : ∀ (k : Nat) (y : List S67) (a i : Int), 0 ≤ i → i ≤ y.length → (y.length : Int) - i = d → d < k → y.length ≤ 140737488355328 → 0 ≤ a → a + 3 * d ≤ 9223372036854775800 →
    (∀ j : Nat, i ≤ j → j < y.length → rd_T67 y j = markMsg (a + 3 * (j - i))) → laws_heldMsgS.l0 k y a i = some (a + 3 * d) := by
  induction d with
  | zero =>
    intro k y a i h0 h1 hd hk hx ha hb h
    obtain ⟨k, rfl⟩ : ∃ m, k = m + 1 := ⟨k - 1, by omega⟩
    simp only [laws_heldMsgS.l0]; rw [if_neg (by omega)]; simp
  | succ d ih =>
    intro k y a i h0 h1 hd hk hx ha hb h
    obtain ⟨k, rfl⟩ : ∃ m, k = m + 1 := ⟨k - 1, by omega⟩
    have e1 : wrap64 (a + 1) = a + 1 := w64 (by omega) (by omega)
    have e2 : wrap64 (a + 1 + 1) = a + 1 + 1 := w64 (by omega) (by omega)
    have e3 : wrap64 (a + 1 + 1 + 1) = a + 1 + 1 + 1 := w64 (by omega) (by omega)
    have hi := h i.toNat (by omega) (by omega)
    rw [show ((i.toNat : Nat) : Int) = i by omega, show a + 3 * (i - i) = a by omega] at hi
    have hm : markMsg a = (⟨a, a + 1, a + 1 + 1⟩ : S67) := by unfold markMsg; rfl
    rw [hm] at hi
    simp only [laws_heldMsgS.l0]
    rw [if_pos (by omega), if_pos h0]
    simp only [hi, e1, e2, e3, if_true]
    have hz : a + 1 + 1 + 1 = a + 3 := by omega
    rw [w64 (x := i + 1) (by omega) (by omega), hz]
    rw [ih k y (a + 3) (i + 1) (by omega) (by omega) (by omega) (by omega) hx (by omega) (by omega) (fun j hj hj' => by rw [h j (by omega) hj']; congr 1; omega)]
    congr 1
    omega

/-- A row is marked, and the marks hold. -/
theorem markMsgS_all (x : List S67) (hx : x.length ≤ 140737488355328) (a : Int) (ha : 0 ≤ a) (hb : a ≤ 4611686018427387904) : ∃ y : List S67, (∀ k, x.length < k → laws_markMsgS.f k x a = some (a + 3 * (x.length : Int), y)) ∧ (∀ k, x.length < k → laws_heldMsgS.f k y a = some (a + 3 * (x.length : Int))) := by
  obtain ⟨y, hy, hl, _, hhi⟩ := markMsgS_l0 x.length (x.length + 1) x a 0 (by omega) (by omega) (by omega) (by omega) hx (by omega) (by omega)
  refine ⟨y, fun k hk => ?_, fun k hk => ?_⟩
  · unfold laws_markMsgS.f
    exact at_rounds (g := fun k => laws_markMsgS.l0 k x a 0) (fun k => laws_markMsgS.mono_l k _ _ _) (by omega) hy
  · unfold laws_heldMsgS.f
    rw [heldMsgS_l0 x.length k y a 0 (by omega) (by omega) (by omega) (by omega) (by omega) (by omega) (by omega) (fun j hj hj' => by rw [hhi j hj (by omega)])]

theorem law_of {m : List S63} (h : Ev (fun k => laws_FnExactShrink.f k m) true) : ∃ k, laws_FnExactShrink.f k m = some true := by
  obtain ⟨k, hk⟩ := h
  exact ⟨k, hk k (Nat.le_refl _)⟩
theorem FnExactShrink : OpnFnExactShrink.Pure := by
  intro m ⟨hm, _⟩
  refine law_of ?_
  unfold laws_FnExactShrink.f laws_szMsgS.f
  rw [w64 (by omega) (by omega)]
  by_cases hb : (1048576 : Int) - m.length < 0
  · rw [if_pos hb]
    exact ev_bind (f := fun _ => some (-1)) (ev_some _) (ev_pos (by omega) (ev_some _))
  rw [if_neg hb]
  refine ev_bind (f := fun _ => some (1048576 - (m.length : Int))) (ev_some _) ?_
  refine ev_neg hb ?_
  have hmm : (m.map cvMsg).length = m.length := List.length_map ..
  have hs := spec_shrink (m.map cvMsg) (by omega)
  have hi := impl_shrink (m.map cvMsg) (by omega)
  have hlen : (shrinkOf (m.map cvMsg)).length ≤ m.length := by
    have := shrinkFrom_len (m.map cvMsg) []
    simp only [List.length_nil, Nat.zero_add, hmm] at this
    exact this
  generalize shrinkOf (m.map cvMsg) = r at *
  have tm : Ev (fun k => laws_toMsgS.f k m) (m.map cvMsg) := ev_of m.length (fun k hk => toMsgS_all m (by omega) k hk)
  obtain ⟨y, h1, h2⟩ := markMsgS_all (m.map cvMsg) (by omega) 1 (by omega) (by omega)
  obtain ⟨z, h3, h4⟩ := markMsgS_all r (by omega) 1 (by omega) (by omega)
  have eqr : Ev (fun k => laws_eqMsgS.f k r r) true := ev_of r.length (fun k hk => eqMsgS_self r (by omega) k hk)
  have eqm : Ev (fun k => laws_eqMsgS.f k (m.map cvMsg) (m.map cvMsg)) true := ev_of (m.map cvMsg).length (fun k hk => eqMsgS_self (m.map cvMsg) (by omega) k hk)
  refine ev_bind tm ?_
  refine ev_bind hs ?_
  refine ev_bind tm ?_
  refine ev_bind hi ?_
  refine ev_bind eqr ?_
  refine ev_pos (by rfl) ?_
  refine ev_bind tm ?_
  refine ev_bind eqm ?_
  refine ev_pos (by rfl) ?_
  refine ev_bind (ev_of _ h1) ?_
  refine ev_neg (by simp only; omega) ?_
  refine ev_bind eqr ?_
  refine ev_step (fun k => by simp only [laws_FnExactShrink.j0]; exact rfl) ?_
  refine ev_neg (by simp) ?_
  refine ev_bind (ev_of _ h3) ?_
  refine ev_bind (ev_of _ h4) ?_
  refine ev_neg (by omega) ?_
  refine ev_pos (by rfl) ?_
  refine ev_bind tm ?_
  refine ev_bind hi ?_
  refine ev_bind eqr ?_
  refine ev_pos (by rfl) ?_
  refine ev_bind (ev_of _ h4) ?_
  refine ev_neg (by omega) ?_
  exact ev_pos (by rfl) (ev_some _)

end Go.Proofs.Ytphlmbhjeoljoaa.Pure
