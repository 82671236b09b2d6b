/- The law FnKids: its walk. -/
import Derived.Test.YtjjocahgbmibeaaW8
namespace Go.Proofs.Ytjjocahgbmibeaa
open Go.Eng
set_option maxRecDepth 4000
set_option linter.unusedSimpArgs false
set_option linter.unusedVariables false
def Srt : Int → List Int → Prop
  | _, [] => True
  | lo, c :: cs => lo < c ∧ Srt c cs
theorem kids_srt (d : Tr → Int → Int → Nat) (hi : Int) : ∀ (ks : List Tr) (cs : List Int) (lo : Int) (acc : Option Nat), cs.length ≤ ks.length → 0 < kidsD d hi ks cs lo acc → Srt lo cs
  | _, [], _, _, _, _ => trivial
  | [], c :: cs, _, _, h, _ => by simp at h
  | k :: ks, c :: cs, lo, acc, h, h0 => by
    simp only [kidsD] at h0
    split at h0
    · omega
    · rename_i q
      split at h0
      · omega
      · exact ⟨by omega, kids_srt d hi ks cs c _ (by simpa using h) h0⟩
theorem cnt_zero (k : Int) : ∀ (cs : List Int) (lo : Int), Srt lo cs → k ≤ lo → cntK k cs = 0
  | [], _, _, _ => rfl
  | c :: cs, lo, h, hk => by
    have := cnt_zero k cs c h.2 (by have := h.1; omega)
    simp only [cntK]; rw [if_neg (by have := h.1; omega), this]
theorem cnt_kid (k : Int) : ∀ (cs : List Int) (lo : Int), Srt lo cs → cntK k cs = kidP k cs
  | [], _, _ => rfl
  | c :: cs, lo, h => by
    simp only [cntK, kidP]
    split
    · rw [cnt_kid k cs c h.2]; omega
    · rw [cnt_zero k cs c h.2 (by omega)]
theorem ok_srt {t : Tr} (h : treeOk t = true) : Srt 0 t.cs := by
  have h0 : 0 < depth (6 + 1) t 0 1000 := of_decide_eq_true h
  rw [depth] at h0
  split at h0
  · split at h0
    · rename_i hl
      simp only [leafOk, Bool.and_eq_true, decide_eq_true_eq] at hl
      have e : t.cs = [] := List.eq_nil_of_length_eq_zero (by omega)
      rw [e]; trivial
    · omega
  · split at h0
    · rename_i hn
      have := hn.1
      simp only [nodeOk, Bool.and_eq_true, decide_eq_true_eq] at this
      exact kids_srt _ _ _ _ _ _ (by omega) h0
    · omega
theorem kidI_eq (t : Tr) (k : Int) : kidOfI t k = kidOf t k := by
  unfold kidOfI kidOf
  split
  · rfl
  · rename_i h
    rw [cnt_kid k t.cs 0 (ok_srt (by cases e : treeOk t <;> simp_all))]
theorem kidP_lo (k : Int) : ∀ (cs : List Int) (c : Int), 0 < kidP k cs → cs[kidP k cs - 1]? = some c → c ≤ k
  | [], _, h, _ => by simp [kidP] at h
  | x :: cs, c, h, hc => by
    simp only [kidP] at h hc
    split at h
    · rename_i q
      rw [if_pos q] at hc
      by_cases h0 : 0 < kidP k cs
      · refine kidP_lo k cs c h0 ?_
        rw [show kidP k cs + 1 - 1 = (kidP k cs - 1) + 1 by omega, List.getElem?_cons_succ] at hc
        exact hc
      · rw [show kidP k cs + 1 - 1 = 0 by omega] at hc
        simp at hc; omega
    · omega
theorem kidP_hi (k : Int) : ∀ (cs : List Int) (c : Int), cs[kidP k cs]? = some c → k < c
  | [], _, h => by simp [kidP] at h
  | x :: cs, c, h => by
    simp only [kidP] at h
    split at h
    · rw [List.getElem?_cons_succ] at h; exact kidP_hi k cs c h
    · simp at h; omega
theorem kid_leaf {t : Tr} (k : Int) (h : treeOk t = true) (hl : t.leaf = true) : kidOfI t k = -1 ∧ tdepth t = 1 ∧ (if treeOk t then t.np else 0) = t.ps.length ∧ (if treeOk t then t.nm else 0) = 0 := by
  obtain ⟨h1, h2, h3⟩ := treeOk_wf h
  refine ⟨by unfold kidOfI; rw [if_pos (.inl hl)], ?_, ?_, ?_⟩
  all_goals
    match hd : tdepth t, h1 with
    | n + 1, .inl ⟨a0, a1, a2, a3, a4, a5⟩ => first | (rw [if_pos h, Tr.np_eq, a4]; simp [Tr.npL]; done) | (rw [if_pos h, Tr.nm_eq, a4, a5]; simp [Tr.nmL]; done) | omega
    | n + 1, .inr ⟨_, a1, _⟩ => rw [hl] at a1; cases a1
theorem kid_node {t : Tr} (k : Int) (h : treeOk t = true) (hl : ¬ t.leaf = true) : kidOfI t k = (kidP k t.cs : Nat) ∧ t.cs.length + 1 = t.ks.length ∧ 1 < tdepth t ∧ t.bs.length ≤ (if treeOk t then t.nm else 0) := by
  obtain ⟨h1, h2, h3⟩ := treeOk_wf h
  refine ⟨by rw [kidI_eq]; unfold kidOf; rw [if_neg (by simp [hl, h])], ?_⟩
  match hd : tdepth t, h1 with
  | n + 1, .inl ⟨a0, a1, _⟩ => exact absurd a1 hl
  | n + 1, .inr ⟨a0, a1, a2, a3, a4, a5⟩ => exact ⟨a4, by omega, by rw [if_pos h, Tr.nm_eq]; omega⟩
theorem kid_bad {t : Tr} (k : Int) (h : treeOk t = false) : kidOfI t k = -1 ∧ tdepth t = 0 ∧ (if treeOk t then t.np else 0) = 0 ∧ (if treeOk t then t.nm else 0) = 0 := by
  refine ⟨by unfold kidOfI; rw [if_pos (.inr h)], ?_, by simp [h], by simp [h]⟩
  have := of_decide_eq_false h
  omega
theorem l_big (code : List UInt8) : RF Y 10 [.fro true 1 (code.map Bc)] (.b (decide ((code.length : Int) > 1048576))) [] := by
  refine RF.s1 rfl rfl rfl fun Q hQ => ?_
  refine .seq <| .reg <| .mv rfl rfl <| .nil <| .seq <| .reg <| .mv rfl rfl <| .len rfl rfl rfl <| .gtr rfl rfl rfl (fun h1 => ?_) (fun h1 => ?_)
  · refine .mv rfl rfl <| .nil <| .ret rfl hQ (.be (by first | (simp at *; done) | (simp at *; omega))) LeBs.refl
  · refine .mv rfl rfl <| .nil <| .ret rfl hQ (.be (by first | (simp at *; done) | (simp at *; omega))) LeBs.refl
end Go.Proofs.Ytjjocahgbmibeaa
