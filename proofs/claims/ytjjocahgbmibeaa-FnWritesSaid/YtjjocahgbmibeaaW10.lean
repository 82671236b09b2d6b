/- Walks: maps of the program's own. -/
import Derived.Test.YtjjocahgbmibeaaA0
namespace Go.Proofs.Ytjjocahgbmibeaa
open Go.Eng
set_option maxRecDepth 4000
set_option linter.unusedSimpArgs false
set_option linter.unusedVariables false
/-- How many keys are below. -/
def low (k : Int) : List Pr → Nat
  | [] => 0
  | p :: ps => if p.k < k then low k ps + 1 else 0
def foundAt (k : Int) (ps : List Pr) : Bool := match ps[low k ps]? with
  | some a => decide (a.k = k)
  | none => false
theorem _root_.Go.Eng.LeB.room {fl : Bool} {es mc : Nat} {xs : List (List AV)} {n : Nat} (hn : n ≤ xs.length) : LeB (.own fl es mc xs) (.own fl es n xs) :=
  .own (fun h => h) (Nat.le_trans hn (Nat.le_max_right _ _)) rfl (fun i x y hx hy => by rw [hx] at hy; cases hy; rfl) (fun i x y j u v hx hy hu hv => by rw [hx] at hy; cases hy; rw [hu] at hv; cases hv; exact .refl)
theorem mOk_mono : ∀ {ps : List Pr} {lo lo' : Int}, lo' ≤ lo → mOk lo ps = true → mOk lo' ps = true
  | [], _, _, _, _ => rfl
  | p :: ps, lo, lo', h, hm => by
    simp only [mOk, Bool.and_eq_true, decide_eq_true_eq] at hm ⊢
    exact ⟨by omega, hm.2⟩
theorem gone_past {k v : Int} : ∀ {ps : List Pr} {lo : Int}, k ≤ lo → mOk lo ps = true → putGo k v true ps = ps ∧ without k ps = ps ∧ mapGet k ps = (0, false)
  | [], _, _, _ => ⟨rfl, rfl, rfl⟩
  | p :: ps, lo, h, hm => by
    simp only [mOk, Bool.and_eq_true, decide_eq_true_eq] at hm
    obtain ⟨a1, a2, a3⟩ := gone_past (k := k) (v := v) (show k ≤ p.k by omega) hm.2
    have hne : ¬ p.k = k := by omega
    unfold without at a2 ⊢
    exact ⟨by simp [putGo, hne, a1], by simp [hne, a2], by simp [mapGet, hne, a3]⟩
theorem putGo_true (k v : Int) : ∀ ps : List Pr, putGo k v true ps = without k ps
  | [] => rfl
  | p :: ps => by
    have := putGo_true k v ps
    unfold without at this ⊢
    by_cases h : p.k = k <;> simp [putGo, h, this]
theorem mOk_filter (f : Pr → Bool) : ∀ {ps : List Pr} {lo : Int}, mOk lo ps = true → mOk lo (ps.filter f) = true
  | [], _, _ => rfl
  | p :: ps, lo, hm => by
    simp only [mOk, Bool.and_eq_true, decide_eq_true_eq] at hm
    rw [List.filter_cons]
    split
    · simp only [mOk, Bool.and_eq_true, decide_eq_true_eq]; exact ⟨hm.1, mOk_filter f hm.2⟩
    · exact mOk_mono (by omega) (mOk_filter f hm.2)
theorem put_mOk {k v : Int} (hk : 0 ≤ k ∧ k ≤ 999) (hv : -1000000000 ≤ v ∧ v ≤ 1000000000) : ∀ {ps : List Pr} {lo : Int}, lo < k → mOk lo ps = true → mOk lo (put k v ps) = true
  | [], lo, hl, _ => by simp [put, putGo, mOk]; omega
  | p :: ps, lo, hl, hm => by
    simp only [mOk, Bool.and_eq_true, decide_eq_true_eq] at hm
    by_cases hlt : p.k < k
    · have e3 : put k v (p :: ps) = p :: put k v ps := by have hne : ¬ p.k = k := (by omega); simp [put, putGo, hne]; intro; omega
      rw [e3]
      simp only [mOk, Bool.and_eq_true, decide_eq_true_eq]
      exact ⟨hm.1, put_mOk hk hv hlt hm.2⟩
    · have hf : mOk p.k (without k ps) = true := mOk_filter _ hm.2
      by_cases he : p.k = k
      · have e : put k v (p :: ps) = ⟨k, v⟩ :: without k ps := by simp [put, putGo, he, putGo_true]
        rw [e]
        simp only [mOk, Bool.and_eq_true, decide_eq_true_eq]
        rw [he] at hf
        exact ⟨by omega, hf⟩
      · have e : put k v (p :: ps) = ⟨k, v⟩ :: p :: without k ps := by simp [put, putGo, he, putGo_true]; omega
        rw [e]
        simp only [mOk, Bool.and_eq_true, decide_eq_true_eq]
        exact ⟨by omega, by omega, hf⟩
theorem clamp_ok (v : Int) : -1000000000 ≤ clamp v ∧ clamp v ≤ 1000000000 := by unfold clamp; omega
theorem mapDo_mOk {ps : List Pr} {m : Ms} {lo : Int} (hl : m.ok = true → lo < m.k) (h : mOk lo ps = true) : mOk lo (mapDo ps m) = true := by
  unfold mapDo
  split
  · rename_i hk
    have hm := hk.2
    simp only [Ms.ok, decide_eq_true_eq] at hm
    split
    · exact put_mOk (by omega) (by omega) (hl hk.2) h
    · split
      · exact mOk_filter _ h
      · split
        · exact put_mOk (by omega) (clamp_ok _) (hl hk.2) h
        · exact h
  · exact h
theorem mapDo_ok {ps : List Pr} {m : Ms} (h : mapOk ps = true) : mapOk (mapDo ps m) = true :=
  mapDo_mOk (fun hm => by simp only [Ms.ok, decide_eq_true_eq] at hm; omega) h
theorem mapDo_bad (ps : List Pr) {m : Ms} (h : m.ok = false) : mapDo ps m = ps := by simp [mapDo, h]
end Go.Proofs.Ytjjocahgbmibeaa
