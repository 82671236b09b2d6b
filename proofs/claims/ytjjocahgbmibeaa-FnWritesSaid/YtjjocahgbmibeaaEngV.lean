/- Regions, in the model: one step, drawn orders, the order of the text. -/
import Derived.Test.YtjjocahgbmibeaaEngU
namespace Go.Eng
set_option linter.unusedVariables false
set_option linter.unusedSimpArgs false

/-- Where a region began. -/
structure Base where
  w : World
  σ : Sig
  F : Nat → Prop
  e : Nat → AV
  m : Mem
  next : Nat
  size : Nat
  defers : List Deferred
  ps : List Nat
  tm : Nat → Value
structure RInv (C : Ctx) (B : Base) (rs : List Rec) (D : Nat → Bool) (a : Act) (w : World) : Prop where
  ex : ∃ σ F, Inv C w σ F (mAt D B.m 0 rs) ∧ EnvR w σ F (eAt D B.e 0 rs) a.tmps ∧ Sub B.σ σ ∧ Mono B.w B.F w F ∧ ∀ id, σ id ≠ none → id < B.next ∨ ∃ k, D k = true ∧ k < rs.length ∧ B.next + 16 * k ≤ id ∧ id < B.next + 16 * k + 16
  size : a.tmps.size = B.size
  defers : a.defers = B.defers
  params : ∀ t, t ∈ B.ps → a.tmps.getD t undef = B.tm t

theorem want_ok {w : World} {σ : Sig} {F : Nat → Prop} {e : Nat → AV} {a : Act} {P : Program} {ops : Array Oper} {o : Oper} {b : Bool} (he : EnvR w σ F e a.tmps)
    (hg : (match o.guard with | some (j, _) => ((ops[j]?).bind (·.dst)).isSome | none => true) = true) (h : (operOf P ops o).want e = some b) : Region.wanted o (yielded ops a.tmps) = b := by
  unfold AOper.want operOf at h
  unfold Region.wanted
  cases hgd : o.guard with
  | none => simp only [hgd] at h ⊢; exact Option.some.inj h
  | some p =>
    obtain ⟨j, x⟩ := p
    simp only [hgd] at hg h ⊢
    obtain ⟨t, ht⟩ := Option.isSome_iff_exists.1 hg
    rw [ht] at h
    simp only at h
    have hr := he t
    unfold yielded
    rw [ht]
    simp only [Option.bind_some]
    rw [Array.getD_eq_getD_getElem?] at hr
    split at h
    · rename_i c hc
      rw [hc] at hr
      obtain rfl := Option.some.inj h
      have hv := hr.bI
      cases hq : a.tmps[t]? with
      | none => rw [hq] at hv; cases hv
      | some v => rw [hq] at hv; simp only [Option.getD_some] at hv; subst hv; cases c <;> cases x <;> rfl
    · rename_i hc
      rw [hc] at hr
      obtain rfl := Option.some.inj h
      obtain ⟨us, hv, hl, _⟩ := hr.tupI
      cases hq : a.tmps[t]? with
      | none => rfl
      | some v => rw [hq] at hv; simp only [Option.getD_some] at hv; subst hv; rfl
    · cases h

theorem put_env {w : World} {σ : Sig} {F : Nat → Prop} {e : Nat → AV} {a : Act} {d : Option Nat} {av : AV} {v : Value} {u : Ups} {t : List Nat} (he : EnvR w σ F e a.tmps) (hr : RelL w σ F av v) (hd : ∀ x, d = some x → x < a.tmps.size) :
    EnvR w σ F (updL e (Rec.eg ⟨d, av, u, t⟩)) (a.put d v).tmps := by
  cases d with
  | none => exact he
  | some d =>
    intro x
    have h1 := hd d rfl
    simp only [Rec.eg, updL, Act.put]
    by_cases hx : x = d
    · subst hx
      rw [if_pos rfl]
      rw [Array.getD_eq_getD_getElem?, Array.getElem?_setIfInBounds_self_of_lt h1]
      exact hr
    · rw [if_neg hx]
      have := he x
      rw [Array.getD_eq_getD_getElem?] at this ⊢
      rw [Array.getElem?_setIfInBounds_ne (fun e => hx e.symm)]
      exact this

section
variable {P : Program} {md : Nat → List Bool} {C : Ctx} {B : Base} {rs : List Rec} {ops : Array Oper} {D D' : Nat → Bool} {a : Act} {w : World} {Q : Exit → Act → World → Prop} {K : Act → World → Prop}
/-- One operation, where some are done. -/
theorem rstep (h : RInv C B rs D a w) {j : Nat} {o : Oper} {r : Rec} (ho : ops[j]? = some o) (hr : rs[j]? = some r)
    {e : Nat → AV} {m : Mem} (hs : Step1 P md e m (B.next + 16 * j) (operOf P ops o) r)
    (hd : ∀ x, o.dst = some x → x < B.size ∧ x ∉ B.ps) (hg : (match o.guard with | some (j, _) => ((ops[j]?).bind (·.dst)).isSome | none => true) = true)
    (hw : (operOf P ops o).want (eAt D B.e 0 rs) = (operOf P ops o).want e) (he : (operOf P ops o).op.map (AOpd.get (eAt D B.e 0 rs)) = (operOf P ops o).op.map (AOpd.get e))
    (hm : ∀ id, id ∈ r.tch → m id = mAt D B.m 0 rs id) (hj : D j = false) (hj' : D' j = true) (hDD : ∀ k, k ≠ j → D' k = D k)
    (h1 : ∀ k r', j < k → rs[k]? = some r' → D k = true → ∀ x, x ∈ keysOf r.eg → x ∉ keysOf r'.eg) (h2 : ∀ k r', j < k → rs[k]? = some r' → D k = true → ∀ x, x ∈ keysOf r.mg → x ∉ keysOf r'.mg)
    (hK : ∀ a' w', RInv C B rs D' a' w' → K a' w') : wpOp P ops Q j K a w := by
  obtain ⟨⟨σ, F, hi, hen, hsub, hmono, hnew⟩, hsz, hdf, hps⟩ := h
  have hput : ∀ v t, t ∈ B.ps → (a.put o.dst v).tmps.getD t undef = B.tm t := fun v t ht => by
    rw [← hps t ht]
    cases hq : o.dst with
    | none => rfl
    | some d =>
      have hne : d ≠ t := fun e => (hd d hq).2 (e ▸ ht)
      simp only [Act.put, Array.getD_eq_getD_getElem?, Array.getElem?_setIfInBounds_ne hne]
  obtain ⟨hdst, hs⟩ := hs
  have hjl : j < rs.length := (List.getElem?_eq_some_iff.1 hr).1
  have ee : eAt D' B.e 0 rs = updL (eAt D B.e 0 rs) r.eg := by
    funext x
    exact atF_add (Nat.zero_le _) (by simp [hr]) hj hj' hDD fun hx k g' hk hg' hd => by
      rw [List.getElem?_map, Option.map_eq_some_iff] at hg'
      obtain ⟨r', hr', rfl⟩ := hg'
      exact h1 k r' (by omega) hr' (by simpa using hd) x hx
  have em : mAt D' B.m 0 rs = putM (mAt D B.m 0 rs) r.ups := by
    funext x
    rw [putM_updL]
    exact atF_add (g := r.mg) (Nat.zero_le _) (by simp [hr]) hj hj' hDD fun hx k g' hk hg' hd => by
      rw [List.getElem?_map, Option.map_eq_some_iff] at hg'
      obtain ⟨r', hr', rfl⟩ := hg'
      exact h2 k r' (by omega) hr' (by simpa using hd) x hx
  have hdo : r.dst = o.dst := hdst
  unfold wpOp
  simp only [ho]
  rcases hs with ⟨hwt, hE, htch⟩ | ⟨hwt, hav, hups, htch⟩
  · have hwd := want_ok (P := P) hen hg (hw.trans hwt)
    rw [hwd]
    simp only [if_true]
    refine .inl (eff_wp hi hen (fun id q1 q2 => ?_) (hE.loc he fun id hid => hm id (htch ▸ hid)) fun v w' hgood => ?_)
    · cases hσ : σ id with
      | none => rfl
      | some ℓ =>
        rcases hnew id (by rw [hσ]; simp) with q | ⟨k, hk, hkl, q3, q4⟩
        · omega
        · have : k ≠ j := fun e => by subst e; rw [hj] at hk; cases hk
          omega
    · obtain ⟨σ', F', g1, g2, g3, g4, g5⟩ := hgood
      refine hK _ _ ⟨⟨σ', F', by rw [em]; exact g1, ?_, hsub.trans g4, hmono.trans g3, fun id hid => ?_⟩, ?_, ?_, hput _⟩
      · rw [ee]
        have : r = ⟨o.dst, r.av, r.ups, r.tch⟩ := by rw [← hdo]
        rw [this]
        exact put_env (hen.mono g4 g3) g2 fun x hx => by rw [hsz]; exact (hd x hx).1
      · rcases g5 id hid with q | q
        · rcases hnew id q with q | ⟨k, hk, q⟩
          · exact .inl q
          · exact .inr ⟨k, by rw [hDD k fun e => by subst e; rw [hj] at hk; cases hk]; exact hk, q⟩
        · exact .inr ⟨j, hj', hjl, q.1, by omega⟩
      · rw [← hsz]; cases o.dst <;> simp [Act.put]
      · rw [← hdf]; cases o.dst <;> rfl
  · have hwd := want_ok (P := P) hen hg (hw.trans hwt)
    rw [hwd]
    simp only [Bool.false_eq_true, if_false]
    refine hK _ _ ⟨⟨σ, F, by rw [em, hups, putM_nil]; exact hi, ?_, hsub, hmono, fun id hid => ?_⟩, ?_, ?_, hput _⟩
    · rw [ee]
      have : r = ⟨o.dst, .tup [], r.ups, r.tch⟩ := by rw [← hdo, ← hav]
      rw [this]
      exact put_env hen (.tup (us := #[]) rfl fun k u v hu => by simp at hu) fun x hx => by rw [hsz]; exact (hd x hx).1
    · rcases hnew id hid with q | ⟨k, hk, q⟩
      · exact .inl q
      · exact .inr ⟨k, by rw [hDD k fun e => by subst e; rw [hj] at hk; cases hk]; exact hk, q⟩
    · rw [← hsz]; cases o.dst <;> simp [Act.put]
    · rw [← hdf]; cases o.dst <;> rfl

/-- The order of the text. -/
theorem plain_ok (hn : ops.size = rs.length) (hs : ∀ k o r, ops[k]? = some o → rs[k]? = some r → Step1 P md (eAt (fun q => decide (q < k)) B.e 0 rs) (mAt (fun q => decide (q < k)) B.m 0 rs) (B.next + 16 * k) (operOf P ops o) r)
    (hf : regOk B.size B.ps ops false = true) (hQ : ∀ a' w', RInv C B rs (fun q => decide (q < rs.length)) a' w' → Q .normal a' w') :
    ∀ (n k : Nat) (a : Act) (w : World), k + n = ops.size → RInv C B rs (fun q => decide (q < k)) a w → wpOps P ops Q (List.range' k n) a w := by
  intro n
  induction n with
  | zero =>
    intro k a w hk h
    simp only [Nat.add_zero] at hk
    rw [hk, hn] at h
    exact hQ a w h
  | succ n ih =>
    intro k a w hk h
    rw [List.range'_succ, wpOps_cons]
    have hk1 : k < ops.size := by omega
    have ho : ops[k]? = some ops[k] := Array.getElem?_eq_getElem hk1
    have hr : rs[k]? = some (rs[k]'(by omega)) := List.getElem?_eq_getElem (by omega)
    simp only [regOk, Bool.not_false, Bool.true_or, Bool.and_true, List.all_eq_true] at hf
    have hf := hf ops[k] (by simp)
    simp only [Bool.and_eq_true] at hf
    refine rstep (D' := fun q => decide (q < k + 1)) h ho hr (hs k _ _ ho hr) (fun x hx => by have := hf.1; rw [hx] at this; simpa using this) hf.2 rfl rfl (fun _ _ => rfl) (by simp) (by simp) (fun q hq => ?_) (fun q r' hq _ hd => by simp at hd; omega) (fun q r' hq _ hd => by simp at hd; omega) fun a' w' h' => ih (k + 1) a' w' (by omega) h'
    simp only [decide_eq_decide]; omega
end
end Go.Eng
