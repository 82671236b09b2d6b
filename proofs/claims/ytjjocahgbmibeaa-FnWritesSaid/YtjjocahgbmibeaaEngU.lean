/- Regions: operations in any order that the edges allow come to what they come to one after the other. -/
import Derived.Test.YtjjocahgbmibeaaEngT
namespace Go.Eng
set_option linter.unusedVariables false
set_option linter.unusedSimpArgs false

/-! Writes that are laid one over the other. -/
section
variable {β : Type}
def updL (f : Nat → β) : List (Nat × β) → Nat → β
  | [] => f
  | p :: g => updL (fun k => if k = p.1 then p.2 else f k) g
def keysOf (g : List (Nat × β)) : List Nat := g.map (·.1)
theorem updL_no {g : List (Nat × β)} : ∀ {f : Nat → β} {x : Nat}, x ∉ keysOf g → updL f g x = f x := by
  induction g with
  | nil => intros; rfl
  | cons p g ih =>
    intro f x h
    simp only [keysOf, List.map_cons, List.mem_cons, not_or] at h
    simp only [updL]
    rw [ih h.2, if_neg h.1]
theorem updL_agr {g : List (Nat × β)} : ∀ {f f' : Nat → β} {x : Nat}, f x = f' x → updL f g x = updL f' g x := by
  induction g with
  | nil => intro f f' x h; exact h
  | cons p g ih =>
    intro f f' x h
    simp only [updL]
    exact ih (by simp [h])
theorem updL_key {g : List (Nat × β)} : ∀ {f f' : Nat → β} {x : Nat}, x ∈ keysOf g → updL f g x = updL f' g x := by
  induction g with
  | nil => intro f f' x h; simp [keysOf] at h
  | cons p g ih =>
    intro f f' x h
    simp only [updL]
    by_cases hx : x ∈ keysOf g
    · exact ih hx
    · simp only [keysOf, List.map_cons, List.mem_cons] at h
      rcases h with h | h
      · exact updL_agr (by simp [h])
      · exact (hx h).elim
def atF (D : Nat → Bool) (f : Nat → β) : Nat → List (List (Nat × β)) → Nat → β
  | _, [] => f
  | i, g :: gs => atF D (if D i = true then updL f g else f) (i + 1) gs
theorem atF_agr {D D' : Nat → Bool} {x : Nat} {gs : List (List (Nat × β))} : ∀ {f f' : Nat → β} {i : Nat}, f x = f' x → (∀ k g, gs[k]? = some g → x ∈ keysOf g → D (i + k) = D' (i + k)) → atF D f i gs x = atF D' f' i gs x := by
  induction gs with
  | nil => intro f f' i h _; exact h
  | cons g gs ih =>
    intro f f' i h hD
    simp only [atF]
    refine ih ?_ fun k g' hk hx => by have := hD (k + 1) g' (by simpa using hk) hx; rwa [show i + (k + 1) = i + 1 + k by omega] at this
    by_cases hx : x ∈ keysOf g
    · have := hD 0 g (by simp) hx
      simp only [Nat.add_zero] at this
      rw [this]
      split
      · exact updL_key hx
      · exact h
    · have e1 : ∀ (b : Bool) (f : Nat → β), (if b = true then updL f g else f) x = f x := fun b f => by split; exact updL_no hx; rfl
      rw [e1, e1]; exact h
theorem atF_none {D : Nat → Bool} {gs : List (List (Nat × β))} {f : Nat → β} {i : Nat} (h : ∀ k, i ≤ k → D k = false) : atF D f i gs = f := by
  induction gs generalizing i with
  | nil => rfl
  | cons g gs ih =>
    simp only [atF]
    rw [h i (Nat.le_refl _)]
    exact ih fun k hk => h k (by omega)
/-- One more index. -/
theorem atF_add {D D' : Nat → Bool} {j x : Nat} {gs : List (List (Nat × β))} : ∀ {f : Nat → β} {i : Nat} {g : List (Nat × β)}, i ≤ j → gs[j - i]? = some g → D j = false → D' j = true → (∀ k, k ≠ j → D' k = D k) →
    (x ∈ keysOf g → ∀ k g', j < i + k → gs[k]? = some g' → D (i + k) = true → x ∉ keysOf g') → atF D' f i gs x = updL (atF D f i gs) g x := by
  induction gs with
  | nil => intro f i g _ hg; simp at hg
  | cons g0 gs ih =>
    intro f i g hij hg h0 h1 hD hno
    simp only [atF]
    by_cases he : i = j
    · subst he
      simp only [Nat.sub_self, List.getElem?_cons_zero, Option.some.injEq] at hg
      subst hg
      rw [h0, h1]
      simp only [if_true, Bool.false_eq_true, if_false]
      by_cases hx : x ∈ keysOf g0
      · have e1 : atF D' (updL f g0) (i + 1) gs x = updL f g0 x := by
          have : ∀ {gs : List (List (Nat × β))} {f : Nat → β} {i' : Nat}, (∀ k g', gs[k]? = some g' → D' (i' + k) = true → x ∉ keysOf g') → atF D' f i' gs x = f x := by
            intro gs
            induction gs with
            | nil => intros; rfl
            | cons g gs ih =>
              intro f i' h
              simp only [atF]
              rw [ih fun k g' hk hd => h (k + 1) g' (by simpa using hk) (by rwa [show i' + (k + 1) = i' + 1 + k by omega])]
              split
              · rename_i hd; exact updL_no (h 0 g (by simp) (by simpa using hd))
              · rfl
          refine this fun k g' hk hd => hno hx (k + 1) g' (by omega) (by simpa using hk) ?_
          rw [show i + (k + 1) = i + 1 + k by omega, ← hD (i + 1 + k) (by omega)]; exact hd
        rw [e1]; exact updL_key hx
      · rw [updL_no hx]
        exact atF_agr (updL_no hx) fun k g' hk _ => hD _ (by omega)
    · have h2 : gs[j - (i + 1)]? = some g := by
        rw [show j - i = (j - (i + 1)) + 1 by omega] at hg
        simpa using hg
      rw [hD i he]
      exact ih (by omega) h2 h0 h1 hD fun hx k g' hk hk' hd => hno hx (k + 1) g' (by omega) (by simpa using hk') (by rwa [show i + (k + 1) = i + 1 + k by omega])
end

/-- What an operation of a region did. -/
structure Rec where
  dst : Option Nat
  av : AV
  ups : Ups
  tch : List Nat
def Rec.eg (r : Rec) : List (Nat × AV) := match r.dst with
  | some d => [(d, r.av)]
  | none => []
def upsM (u : Ups) : List (Nat × Option AObj) := u.map fun p => (p.1, some p.2)
def Rec.mg (r : Rec) : List (Nat × Option AObj) := upsM r.ups
theorem putM_updL {u : Ups} : ∀ {m : Mem}, putM m u = updL m (upsM u) := by
  induction u with
  | nil => intro m; rfl
  | cons p u ih => intro m; rw [putM_cons, ih]; rfl
def eAt (D : Nat → Bool) (e : Nat → AV) (i : Nat) (rs : List Rec) : Nat → AV := atF D e i (rs.map Rec.eg)
def mAt (D : Nat → Bool) (m : Mem) (i : Nat) (rs : List Rec) : Mem := atF D m i (rs.map Rec.mg)

theorem St.e_ups (S : St) (u : Ups) : (S.ups u).e = S.e := rfl
theorem St.m_put (S : St) (d : Option Nat) (v : AV) : (S.put d v).m = S.m := by cases d <;> rfl
theorem St.next_ups (S : St) (u : Ups) (d : Option Nat) (v : AV) : ((S.ups u).put d v).next = S.next := by cases d <;> rfl
theorem St.e_put (S : St) (d : Option Nat) (v : AV) {u : Ups} {t : List Nat} : (S.put d v).e = updL S.e (Rec.eg ⟨d, v, u, t⟩) := by
  funext k
  cases d with
  | none => rfl
  | some d =>
    show (look ((d, v) :: S.env) k).getD .junk = _
    simp only [look, Rec.eg, updL]
    by_cases h : d = k
    · subst h; simp
    · rw [if_neg h, if_neg fun he => h he.symm]; rfl
theorem look_rev {α : Type} {u : List (Nat × α)} : ∀ {l : List (Nat × α)}, look (u.reverse ++ l) = updL (look l) (u.map fun p => (p.1, some p.2)) := by
  induction u with
  | nil => intro l; rfl
  | cons p u ih =>
    intro l
    rw [List.reverse_cons, List.append_assoc, ih]
    simp only [List.map_cons, updL]
    congr 1
    funext k
    obtain ⟨a, b⟩ := p
    simp only [List.cons_append, List.nil_append, look]
    by_cases h : a = k
    · subst h; simp
    · rw [if_neg h, if_neg fun he => h he.symm]
theorem St.m_ups (S : St) (u : Ups) : (S.ups u).m = updL S.m (upsM u) := look_rev

inductive Chain (P : Program) (md : Nat → List Bool) : List AOper → Nat → St → List (List Nat × List Nat) → St → List (List Nat × List Nat) → Prop where
  | nil {i S tr} : Chain P md [] i S tr S tr
  | go {o rest i S tr S' tr' av ups} (hw : o.want S.e = some true) (h : Eff P md (S.next + 16 * i) S.e S.m o.op av ups)
      (h' : Chain P md rest (i + 1) ((S.ups ups).put o.dst av) (tr ++ [(touchOf S.m (o.op.map (AOpd.get S.e)), ups.map (·.1))]) S' tr') : Chain P md (o :: rest) i S tr S' tr'
  | no {o rest i S tr S' tr'} (hw : o.want S.e = some false) (h' : Chain P md rest (i + 1) (S.put o.dst (.tup [])) (tr ++ [([], [])]) S' tr') : Chain P md (o :: rest) i S tr S' tr'

/-- A region's records: each operation as it is in the order of the text. -/
def Step1 (P : Program) (md : Nat → List Bool) (e : Nat → AV) (m : Mem) (nid : Nat) (o : AOper) (r : Rec) : Prop :=
  r.dst = o.dst ∧ ((o.want e = some true ∧ Eff P md nid e m o.op r.av r.ups ∧ r.tch = touchOf m (o.op.map (AOpd.get e))) ∨ (o.want e = some false ∧ r.av = .tup [] ∧ r.ups = [] ∧ r.tch = []))
theorem Chain.recs {P : Program} {md : Nat → List Bool} {ops : List AOper} {i : Nat} {S S' : St} {tr tr' : List (List Nat × List Nat)} (h : Chain P md ops i S tr S' tr') :
    ∃ rs : List Rec, rs.length = ops.length ∧ tr' = tr ++ rs.map (fun r => (r.tch, r.ups.map (·.1))) ∧ S'.next = S.next ∧ S'.e = eAt (fun _ => true) S.e i rs ∧ S'.m = mAt (fun _ => true) S.m i rs ∧
      ∀ k o r, ops[k]? = some o → rs[k]? = some r → Step1 P md (eAt (fun q => decide (q < i + k)) S.e i rs) (mAt (fun q => decide (q < i + k)) S.m i rs) (S.next + 16 * (i + k)) o r := by
  induction h with
  | nil => exact ⟨[], rfl, by simp, rfl, rfl, rfl, fun k o r h => by simp at h⟩
  | @go o rest i S tr S' tr' av ups hw hE h' ih =>
    obtain ⟨rs, h1, h2, h3, h4, h5, h6⟩ := ih
    refine ⟨⟨o.dst, av, ups, touchOf S.m (o.op.map (AOpd.get S.e))⟩ :: rs, by simp [h1], by rw [h2]; simp, by rw [h3, St.next_ups], ?_, ?_, fun k o' r hk hr => ?_⟩
    · rw [h4, St.e_put (u := ups) (t := touchOf S.m (o.op.map (AOpd.get S.e))), St.e_ups]; rfl
    · rw [h5, St.m_put, St.m_ups]; rfl
    · cases k with
      | zero =>
        simp only [List.getElem?_cons_zero, Option.some.injEq] at hk hr
        subst hk; subst hr
        have e1 : eAt (fun q => decide (q < i + 0)) S.e i (⟨o.dst, av, ups, touchOf S.m (o.op.map (AOpd.get S.e))⟩ :: rs) = S.e := atF_none fun k hk => by simp; exact hk
        have e2 : mAt (fun q => decide (q < i + 0)) S.m i (⟨o.dst, av, ups, touchOf S.m (o.op.map (AOpd.get S.e))⟩ :: rs) = S.m := atF_none fun k hk => by simp; exact hk
        rw [e1, e2]
        exact ⟨rfl, .inl ⟨hw, hE, rfl⟩⟩
      | succ k =>
        have := h6 k o' r (by simpa using hk) (by simpa using hr)
        rw [St.next_ups, St.m_put, St.m_ups, St.e_put (u := ups) (t := touchOf S.m (o.op.map (AOpd.get S.e))), St.e_ups] at this
        have hi : decide (i < i + (k + 1)) = true := by simp
        unfold eAt mAt
        simp only [List.map_cons, atF, hi, if_true]
        rw [show i + (k + 1) = i + 1 + k by omega]
        exact this
  | @no o rest i S tr S' tr' hw h' ih =>
    obtain ⟨rs, h1, h2, h3, h4, h5, h6⟩ := ih
    refine ⟨⟨o.dst, .tup [], [], []⟩ :: rs, by simp [h1], by rw [h2]; simp, by rw [h3]; cases o.dst <;> rfl, ?_, ?_, fun k o' r hk hr => ?_⟩
    · rw [h4, St.e_put (u := []) (t := [])]; rfl
    · rw [h5, St.m_put]; rfl
    · cases k with
      | zero =>
        simp only [List.getElem?_cons_zero, Option.some.injEq] at hk hr
        subst hk; subst hr
        have e1 : eAt (fun q => decide (q < i + 0)) S.e i (⟨o.dst, .tup [], [], []⟩ :: rs) = S.e := atF_none fun k hk => by simp; exact hk
        rw [e1]
        exact ⟨rfl, .inr ⟨hw, rfl, rfl, rfl⟩⟩
      | succ k =>
        have := h6 k o' r (by simpa using hk) (by simpa using hr)
        rw [St.m_put, St.e_put (u := []) (t := [])] at this
        have hn : (S.put o.dst (.tup [])).next = S.next := by cases o.dst <;> rfl
        rw [hn] at this
        have hi : decide (i < i + (k + 1)) = true := by simp
        unfold eAt mAt
        simp only [List.map_cons, atF, hi, if_true]
        rw [show i + (k + 1) = i + 1 + k by omega]
        exact this
end Go.Eng
