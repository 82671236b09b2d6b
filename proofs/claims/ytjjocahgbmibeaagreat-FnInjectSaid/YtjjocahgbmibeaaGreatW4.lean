/- Walks: when a tree is right, how great it is (the program). -/
import Derived.Test.YtjjocahgbmibeaaGreatW3
namespace Go.Proofs.YtjjocahgbmibeaaGreat
open Go.Eng
set_option maxRecDepth 4000
set_option linter.unusedSimpArgs false
set_option linter.unusedVariables false
/-- The first place where something holds. -/
def idxP {α : Type} (f : α → Bool) : List α → Nat → Int
  | [], _ => -1
  | a :: l, n => if f a = true then n else idxP f l (n + 1)
theorem idxP_any {α : Type} (f : α → Bool) : ∀ (l : List α) (n : Nat), decide (idxP f l n ≥ 0) = l.any f
  | [], n => by simp [idxP]
  | a :: l, n => by
    simp only [idxP, List.any_cons]
    split
    · rename_i h; simp [h]
    · rename_i h; rw [idxP_any f l (n + 1)]; simp [h]
theorem all_any {α : Type} (f : α → Bool) : ∀ l : List α, l.all f = !(l.any fun a => !f a)
  | [] => rfl
  | a :: l => by rw [List.all_cons, List.any_cons, all_any f l]; cases f a <;> rfl
/-- How many cuts are at most k. -/
def cntK (k : Int) : List Int → Nat
  | [] => 0
  | c :: cs => (if c ≤ k then 1 else 0) + cntK k cs
theorem i_within (x lo hi : Int) : RF Y 95 [i64 x, i64 lo, i64 hi] (.b (decide (lo ≤ x ∧ x ≤ hi))) [] := by
  refine RF.s3 rfl rfl rfl fun Q hQ => ?_
  refine .seq <| .reg <| .mv rfl rfl <| .nil <| .seq <| .reg <| .mv rfl rfl <| .mv rfl rfl <| .geq rfl rfl rfl (fun h1 => ?_) (fun h1 => ?_)
  · refine .mv rfl rfl <| .g rfl rfl <| .mv rfl rfl <| .g rfl rfl <| .mv rfl rfl <| .g rfl rfl <| .leq rfl rfl rfl (fun h2 => ?_) (fun h2 => ?_)
    · refine .pickT rfl rfl rfl <| .mv rfl rfl <| .nil <| .ret rfl hQ (.be (by first | (simp [] at *; done) | (simp [] at *; omega))) LeBs.refl
    · refine .pickT rfl rfl rfl <| .mv rfl rfl <| .nil <| .ret rfl hQ (.be (by first | (simp [] at *; done) | (simp [] at *; omega))) LeBs.refl
  · refine .mv rfl rfl <| .gs rfl rfl rfl <| .gs rfl rfl rfl <| .gs rfl rfl rfl <| .pickF rfl rfl rfl <| .mv rfl rfl <| .nil <| .ret rfl hQ (.be (by first | (simp [] at *; done) | (simp [] at *; omega))) LeBs.refl
theorem i_isNum (v : Int) : RF Y 99 [i64 v] (.b (okV v)) [] := by
  refine RF.s1 rfl rfl rfl fun Q hQ => ?_
  refine .seq <| .reg <| .mv rfl rfl <| .nil <| .seq <| .reg <| .mv rfl rfl <| .c rfl rfl rfl (i_within ..) .refl rfl rfl rfl (by decide) <| .mv rfl rfl <| .nil <| .ret rfl hQ .r LeBs.refl
theorem i_isKey (v : Int) : RF Y 98 [i64 v] (.b (decide (0 ≤ v ∧ v ≤ 999))) [] := by
  refine RF.s1 rfl rfl rfl fun Q hQ => ?_
  refine .seq <| .reg <| .mv rfl rfl <| .nil <| .seq <| .reg <| .mv rfl rfl <| .c rfl rfl rfl (i_within ..) .refl rfl rfl rfl (by decide) <| .mv rfl rfl <| .nil <| .ret rfl hQ .r LeBs.refl
theorem i_MsgOk (m : Ms) : RF Y 49 [.agg (Ms.c m)] (.b m.ok) [] := by
  refine RF.s1 rfl rfl rfl fun Q hQ => ?_
  refine .seq <| .reg <| .box rfl rfl rfl <| .mv rfl rfl <| .nil <| .seq <| .seq <| .reg <| .fa rfl rfl <| .ldE rfl rfl rfl rfl <| .c rfl rfl rfl (i_isKey ..) .refl rfl rfl rfl (by decide) <| .bB (fun h1 => ?_) (fun h1 => ?_)
  · have h1 := of_decide_eq_true h1
    refine .notT rfl rfl <| .nil <| .condF rfl <| .skip <| .seq <| .seq <| .reg <| .fa rfl rfl <| .ldE rfl rfl rfl rfl <| .nil <| .block <| .seq <| .seq <| .reg <| .eql rfl rfl rfl (fun h2 => ?_) (fun h2 => ?_)
    · refine .mv rfl rfl <| .nil <| .condT rfl <| .skip <| .condT rfl <| .seq <| .reg <| .fa rfl rfl <| .ldE rfl rfl rfl rfl <| .c rfl rfl rfl (i_isNum ..) .refl rfl rfl rfl (by decide) <| .mv rfl rfl <| .nil <| .ret rfl hQ (.be (by first | (simp [Ms.ok, okV] at *; done) | (simp [Ms.ok, okV] at *; omega) | (simp only [Ms.ok, okV, decide_eq_decide]; omega))) LeBs.refl
    · refine .mv rfl rfl <| .nil <| .condF rfl <| .reg <| .eql rfl rfl rfl (fun h3 => ?_) (fun h3 => ?_)
      · refine .mv rfl rfl <| .nil <| .condT rfl <| .seq <| .reg <| .fa rfl rfl <| .ldE rfl rfl rfl rfl <| .c rfl rfl rfl (i_isNum ..) .refl rfl rfl rfl (by decide) <| .mv rfl rfl <| .nil <| .ret rfl hQ (.be (by first | (simp [Ms.ok, okV] at *; done) | (simp [Ms.ok, okV] at *; omega) | (simp only [Ms.ok, okV, decide_eq_decide]; omega))) LeBs.refl
      · refine .mv rfl rfl <| .nil <| .condF rfl <| .seq <| .seq <| .reg <| .eql rfl rfl rfl (fun h4 => ?_) (fun h4 => ?_)
        · refine .mv rfl rfl <| .nil <| .condT rfl <| .skip <| .condT rfl <| .seq <| .reg <| .fa rfl rfl <| .ldE rfl rfl rfl rfl <| .eql rfl rfl rfl (fun h5 => ?_) (fun h5 => ?_)
          · refine .mv rfl rfl <| .nil <| .ret rfl hQ (.be (by first | (simp [Ms.ok, okV] at *; done) | (simp [Ms.ok, okV] at *; omega) | (simp only [Ms.ok, okV, decide_eq_decide]; omega))) LeBs.refl
          · refine .mv rfl rfl <| .nil <| .ret rfl hQ (.be (by first | (simp [Ms.ok, okV] at *; done) | (simp [Ms.ok, okV] at *; omega) | (simp only [Ms.ok, okV, decide_eq_decide]; omega))) LeBs.refl
        · refine .mv rfl rfl <| .nil <| .condF rfl <| .reg <| .eql rfl rfl rfl (fun h6 => ?_) (fun h6 => ?_)
          · refine .mv rfl rfl <| .nil <| .condT rfl <| .seq <| .reg <| .fa rfl rfl <| .ldE rfl rfl rfl rfl <| .eql rfl rfl rfl (fun h7 => ?_) (fun h7 => ?_)
            · refine .mv rfl rfl <| .nil <| .ret rfl hQ (.be (by first | (simp [Ms.ok, okV] at *; done) | (simp [Ms.ok, okV] at *; omega) | (simp only [Ms.ok, okV, decide_eq_decide]; omega))) LeBs.refl
            · refine .mv rfl rfl <| .nil <| .ret rfl hQ (.be (by first | (simp [Ms.ok, okV] at *; done) | (simp [Ms.ok, okV] at *; omega) | (simp only [Ms.ok, okV, decide_eq_decide]; omega))) LeBs.refl
          · refine .mv rfl rfl <| .nil <| .condF rfl <| .skip <| .inBlock <| .seq <| .reg <| .mv rfl rfl <| .nil <| .ret rfl hQ (.be (by first | (simp [Ms.ok, okV] at *; done) | (simp [Ms.ok, okV] at *; omega) | (simp only [Ms.ok, okV, decide_eq_decide]; omega))) LeBs.refl
  · refine .notF rfl rfl <| .nil <| .condT rfl <| .seq <| .reg <| .mv rfl rfl <| .nil <| .ret rfl hQ (.be (by first | (simp [Ms.ok, okV] at *; done) | (simp [Ms.ok, okV] at *; omega) | (simp only [Ms.ok, okV, decide_eq_decide]; omega))) LeBs.refl
theorem i_MapOk (ps : List Pr) (h : ps.length ≤ 1000000) : RF Y 54 [.fro true 2 (ps.map Pr.c)] (.b (mapOk ps)) [] := by
  refine RF.s1 rfl rfl rfl fun Q hQ => ?_
  refine .seq <| .reg <| .mv rfl rfl <| .nil <| .seq <| .seq <| .reg <| .mv rfl rfl <| .len rfl rfl rfl <| .mv rfl rfl <| .nil <| .block <| ?_
  refine RA.loopI fun T0 hT0 nT0 eT0 => ?_
  have L0 : ∀ (post pre : List Pr) (lo : Int) (Q : Qst), ps = pre ++ post → (∀ p, pre.getLast? = some p → lo = p.k) → (pre = [] → lo = -1) → Q (.b (mOk lo post)) [] → RA Y a54 T0 [(0, .fro true 2 (ps.map Pr.c)), (5, .fro true 2 (ps.map Pr.c)), (6, i64 ps.length), (7, i64 pre.length)] [] 0 Q := by
    intro post
    induction post with
    | nil =>
      intro pre lo Q hc hlo hl0 hQ
      have hl : ps.length = pre.length := by simp [hc]
      rw [eT0]
      refine .seq <| .reg <| .lssF rfl rfl rfl (by omega) <| .nil <| .seq <| .condF rfl <| .exit rfl <| .seq <| .reg <| .mv rfl rfl <| .nil <| .ret rfl hQ (.be (by first | (simp [mOk, okV] at *; done) | (simp [mOk, okV] at *; omega))) LeBs.refl
    | cons a post ih =>
      intro pre lo Q hc hlo hl0 hQ
      have hl : ps.length = pre.length + post.length + 1 := by simp [hc]; omega
      have ha : ps[pre.length]? = some a := by simp [hc]
      rw [eT0]
      refine .seq <| .reg <| .lssT rfl rfl rfl (by omega) <| .nil <| .seq <| .condT rfl <| .skip <| .seq <| .block <| .seq <| .reg <| .mv rfl rfl <| .ia rfl rfl rfl (by assumption) <| .aF rfl rfl rfl <| .new rfl <| .mv rfl rfl <| .stA rfl rfl rfl rfl rfl rfl <| .nil <| .seq <| .regD <| .fa rfl rfl <| .ldE rfl rfl rfl rfl <| .c rfl rfl rfl (i_isKey ..) .refl rfl rfl rfl (by decide) <| .bB (fun h2 => ?_) (fun h2 => ?_)
      · refine .notT rfl rfl <| .mv rfl rfl <| .g rfl rfl <| .fa rfl rfl <| .g rfl rfl <| .ldE rfl rfl rfl rfl <| .g rfl rfl <| .c rfl rfl rfl (i_isNum ..) .refl rfl rfl rfl (by decide) <| .bB (fun h3 => ?_) (fun h3 => ?_)
        · refine .g rfl rfl <| .notT rfl rfl <| .pickF rfl rfl rfl <| .mv rfl rfl <| .g rfl rfl <| .mv rfl rfl <| .g rfl rfl <| .gtr rfl rfl rfl (fun h4 => ?_) (fun h4 => ?_)
          · obtain ⟨p, hp, hp1⟩ := last_at hc h4
            have hlo' := hlo p hp
            refine .g rfl rfl <| .mv rfl rfl <| .g rfl rfl <| .mv rfl rfl <| .g rfl rfl <| .mv rfl rfl <| .g rfl rfl <| .sub rfl rfl rfl (by omega) <| .g rfl rfl <| .iaI rfl rfl rfl (by omega) (by assumption) <| .g rfl rfl <| .faF rfl rfl <| .g rfl rfl <| .ldF rfl rfl rfl <| .g rfl rfl <| .fa rfl rfl <| .g rfl rfl <| .ldE rfl rfl rfl rfl <| .g rfl rfl <| .geq rfl rfl rfl (fun h5 => ?_) (fun h5 => ?_)
            · refine .g rfl rfl <| .pickT rfl rfl rfl <| .pickF rfl rfl rfl <| .nil (by kernel_rfl) <| .condT rfl <| .seq <| .reg <| .mv rfl rfl <| .nil <| .ret rfl hQ (.be (by first | (simp [mOk, okV] at *; done) | (simp [mOk, okV] at *; omega))) LeBs.refl
            · refine .g rfl rfl <| .pickT rfl rfl rfl <| .pickF rfl rfl rfl <| .nil (by kernel_rfl) <| .condF rfl <| .skip <| .inBlock <| .reg <| .add rfl rfl rfl (by omega) <| .mv rfl rfl <| .nil <| hT0 <| ?_
              exact RA.wq [] (ih (pre ++ [a]) a.k _ (by simp [hc]) (by simp) (by simp) (by simp [mOk] at hQ h2 h3; simp [okV] at h3; simpa [show lo < a.k by omega, h2.1, h2.2, h3.1, h3.2] using hQ)) nT0
          · refine .g rfl rfl <| .mv rfl rfl <| .gs rfl rfl rfl <| .gs rfl rfl rfl <| .gs rfl rfl rfl <| .gs rfl rfl rfl <| .gs rfl rfl rfl <| .gs rfl rfl rfl <| .gs rfl rfl rfl <| .gs rfl rfl rfl <| .gs rfl rfl rfl <| .g rfl rfl <| .pickF rfl rfl rfl <| .pickF rfl rfl rfl <| .nil (by kernel_rfl) <| .condF rfl <| .skip <| .inBlock <| .reg <| .add rfl rfl rfl (by omega) <| .mv rfl rfl <| .nil <| hT0 <| ?_
            exact RA.wq [] (ih (pre ++ [a]) a.k _ (by simp [hc]) (by simp) (by simp) (by simp [mOk] at hQ h2 h3; simp [okV] at h3; have := hl0 (List.eq_nil_of_length_eq_zero (by omega)); simpa [show lo < a.k by omega, h2.1, h2.2, h3.1, h3.2] using hQ)) nT0
        · refine .g rfl rfl <| .notF rfl rfl <| .pickF rfl rfl rfl <| .mv rfl rfl <| .gs rfl rfl rfl <| .gs rfl rfl rfl <| .gs rfl rfl rfl <| .gu rfl rfl <| .gu rfl rfl <| .gu rfl rfl <| .gu rfl rfl <| .gu rfl rfl <| .gu rfl rfl <| .gu rfl rfl <| .gu rfl rfl <| .gu rfl rfl <| .gs rfl rfl rfl <| .pickT rfl rfl rfl <| .nil (by kernel_rfl) <| .condT rfl <| .seq <| .reg <| .mv rfl rfl <| .nil <| .ret rfl hQ (.be (by first | (simp [mOk, okV] at *; done) | (simp [mOk, okV] at *; omega))) LeBs.refl
      · refine .notF rfl rfl <| .mv rfl rfl <| .gs rfl rfl rfl <| .gs rfl rfl rfl <| .gs rfl rfl rfl <| .gs rfl rfl rfl <| .pickT rfl rfl rfl <| .mv rfl rfl <| .gs rfl rfl rfl <| .gs rfl rfl rfl <| .gs rfl rfl rfl <| .gu rfl rfl <| .gu rfl rfl <| .gu rfl rfl <| .gu rfl rfl <| .gu rfl rfl <| .gu rfl rfl <| .gu rfl rfl <| .gu rfl rfl <| .gu rfl rfl <| .gs rfl rfl rfl <| .pickT rfl rfl rfl <| .nil (by kernel_rfl) <| .condT rfl <| .seq <| .reg <| .mv rfl rfl <| .nil <| .ret rfl hQ (.be (by first | (simp [mOk, okV] at *; done) | (simp [mOk, okV] at *; omega))) LeBs.refl
  exact RA.wq [] (L0 ps [] (-1) _ rfl (by simp) (by simp) hQ) nT0
theorem i_leafOk_1 (p : Pr) (lo hi : Int) (hlh : -1000000 ≤ hi ∧ hi ≤ 1000000) : RF Y 147 [.agg (Pr.c p), .fptr [i64 lo] 0, .fptr [i64 hi] 0] (.b (!inK lo hi p.k)) [] := by
  refine RF.s3 rfl rfl rfl fun Q hQ => ?_
  refine .seq <| .reg <| .box rfl rfl rfl <| .mv rfl rfl <| .nil <| .seq <| .reg <| .fa rfl rfl <| .ldE rfl rfl rfl rfl <| .ldF rfl rfl rfl <| .ldF rfl rfl rfl <| .sub rfl rfl rfl (by omega) <| .c rfl rfl rfl (i_within ..) .refl rfl rfl rfl (by decide) <| .not rfl rfl <| .mv rfl rfl <| .nil <| .ret rfl hQ (.be (by first | (simp [inK, *] at *; done) | (simp [inK, *] at *; omega))) LeBs.refl
theorem i_depthOf_1 (m : Ms) (lo hi : Int) (hlh : -1000000 ≤ hi ∧ hi ≤ 1000000) : RF Y 97 [.agg (Ms.c m), .fptr [i64 lo] 0, .fptr [i64 hi] 0] (.b (!bufOk lo hi m)) [] := by
  refine RF.s3 rfl rfl rfl fun Q hQ => ?_
  refine .seq <| .reg <| .box rfl rfl rfl <| .mv rfl rfl <| .nil <| .seq <| .reg <| .aE rfl rfl rfl rfl <| .c rfl rfl rfl (i_MsgOk ..) .refl rfl rfl rfl (by decide) <| .bB (fun h1 => ?_) (fun h1 => ?_)
  · refine .notT rfl rfl <| .mv rfl rfl <| .g rfl rfl <| .fa rfl rfl <| .g rfl rfl <| .ldE rfl rfl rfl rfl <| .g rfl rfl <| .eql rfl rfl rfl (fun h2 => ?_) (fun h2 => ?_)
    · refine .pickF rfl rfl rfl <| .mv rfl rfl <| .gs rfl rfl rfl <| .gs rfl rfl rfl <| .gs rfl rfl rfl <| .gs rfl rfl rfl <| .gs rfl rfl rfl <| .gs rfl rfl rfl <| .gs rfl rfl rfl <| .pickT rfl rfl rfl <| .mv rfl rfl <| .nil <| .ret rfl hQ (.be (by first | (simp [bufOk, inK, *] at *; done) | (simp [bufOk, inK, *] at *; omega))) LeBs.refl
    · refine .pickF rfl rfl rfl <| .mv rfl rfl <| .g rfl rfl <| .fa rfl rfl <| .g rfl rfl <| .ldE rfl rfl rfl rfl <| .g rfl rfl <| .ldF rfl rfl rfl <| .g rfl rfl <| .ldF rfl rfl rfl <| .g rfl rfl <| .sub rfl rfl rfl (by omega) <| .g rfl rfl <| .c rfl rfl rfl (i_within ..) .refl rfl rfl rfl (by decide) <| .g rfl rfl <| .not rfl rfl <| .pickF rfl rfl rfl <| .mv rfl rfl <| .nil <| .ret rfl hQ (.be (by first | (simp [bufOk, inK, *] at *; done) | (simp [bufOk, inK, *] at *; omega))) LeBs.refl
  · refine .notF rfl rfl <| .mv rfl rfl <| .gs rfl rfl rfl <| .gs rfl rfl rfl <| .gs rfl rfl rfl <| .pickT rfl rfl rfl <| .mv rfl rfl <| .gs rfl rfl rfl <| .gs rfl rfl rfl <| .gs rfl rfl rfl <| .gs rfl rfl rfl <| .gs rfl rfl rfl <| .gs rfl rfl rfl <| .gs rfl rfl rfl <| .pickT rfl rfl rfl <| .mv rfl rfl <| .nil <| .ret rfl hQ (.be (by first | (simp [bufOk, inK, *] at *; done) | (simp [bufOk, inK, *] at *; omega))) LeBs.refl
theorem IndexFunc_leafOk (ps : List Pr) (lo hi : Int) (hlh : -1000000 ≤ hi ∧ hi ≤ 1000000) (h : ps.length ≤ 1000000) : RF Y 133 [.fro true 2 (ps.map Pr.c), .clo 147 [.fptr [i64 lo] 0, .fptr [i64 hi] 0]] (i64 (idxP (fun a => !inK lo hi a.k) ps 0)) [] := by
  refine RF.s2 rfl rfl rfl fun Q hQ => ?_
  refine .seq <| .reg <| .mv rfl rfl <| .nil <| .seq <| .seq <| .reg <| .mv rfl rfl <| .len rfl rfl rfl <| .mv rfl rfl <| .nil <| .block <| ?_
  refine RA.loopI fun T0 hT0 nT0 eT0 => ?_
  have L0 : ∀ (post pre : List Pr)  (Q : Qst), ps = pre ++ post → Q (i64 (idxP (fun a => !inK lo hi a.k) post pre.length)) [] → RA Y a133 T0 [(0, .fro true 2 (ps.map Pr.c)), (1, .clo 147 [.fptr [i64 lo] 0, .fptr [i64 hi] 0]), (7, i64 ps.length), (8, i64 pre.length)] [] 0 Q := by
    intro post
    induction post with
    | nil =>
      intro pre  Q hc  hQ
      have hl : ps.length = pre.length := by simp [hc]
      rw [eT0]
      refine .seq <| .reg <| .lssF rfl rfl rfl (by omega) <| .nil <| .seq <| .condF rfl <| .exit rfl <| .seq <| .reg <| .mv rfl rfl <| .nil <| .ret rfl hQ .r LeBs.refl
    | cons a post ih =>
      intro pre  Q hc  hQ
      have hl : ps.length = pre.length + post.length + 1 := by simp [hc]; omega
      have ha : ps[pre.length]? = some a := by simp [hc]
      rw [eT0]
      refine .seq <| .reg <| .lssT rfl rfl rfl (by omega) <| .nil <| .seq <| .condT rfl <| .skip <| .seq <| .block <| .seq <| .reg <| .mv rfl rfl <| .mv rfl rfl <| .nil <| .seq <| .reg <| .mv rfl rfl <| .mv rfl rfl <| .mv rfl rfl <| .ia rfl rfl rfl (by assumption) <| .aF rfl rfl rfl <| .c rfl rfl rfl (i_leafOk_1 a lo hi hlh) .refl rfl rfl rfl (by decide) <| .bB (fun h2 => ?_) (fun h2 => ?_)
      · simp [idxP, h2] at hQ
        refine .nil <| .condT rfl <| .seq <| .reg <| .mv rfl rfl <| .mv rfl rfl <| .nil <| .ret rfl hQ .r LeBs.refl
      · refine .nil <| .condF rfl <| .skip <| .inBlock <| .reg <| .add rfl rfl rfl (by omega) <| .mv rfl rfl <| .nil <| hT0 <| ?_
        exact RA.wq [] (ih (pre ++ [a])  _ (by simp [hc])  (by simpa [idxP, *] using hQ)) nT0
  exact RA.wq [] (L0 ps []  _ rfl  hQ) nT0
theorem ContainsFunc_leafOk (ps : List Pr) (lo hi : Int) (hlh : -1000000 ≤ hi ∧ hi ≤ 1000000) (h : ps.length ≤ 1000000) : RF Y 146 [.fro true 2 (ps.map Pr.c), .clo 147 [.fptr [i64 lo] 0, .fptr [i64 hi] 0]] (.b (ps.any fun a => !inK lo hi a.k)) [] := by
  refine RF.s2 rfl rfl rfl fun Q hQ => ?_
  refine .seq <| .reg <| .mv rfl rfl <| .nil <| .seq <| .reg <| .mv rfl rfl <| .mv rfl rfl <| .c rfl rfl rfl (IndexFunc_leafOk ps lo hi hlh h) .refl rfl rfl rfl (by decide) <| .geq rfl rfl rfl (fun h1 => ?_) (fun h1 => ?_)
  · refine .mv rfl rfl <| .nil <| .ret rfl hQ (.be (by rw [← idxP_any _ ps 0]; simp; omega)) LeBs.refl
  · refine .mv rfl rfl <| .nil <| .ret rfl hQ (.be (by rw [← idxP_any _ ps 0]; simp; omega)) LeBs.refl
theorem IndexFunc_depthOf (ps : List Ms) (lo hi : Int) (hlh : -1000000 ≤ hi ∧ hi ≤ 1000000) (h : ps.length ≤ 1000000) : RF Y 148 [.fro true 3 (ps.map Ms.c), .clo 97 [.fptr [i64 lo] 0, .fptr [i64 hi] 0]] (i64 (idxP (fun a => !bufOk lo hi a) ps 0)) [] := by
  refine RF.s2 rfl rfl rfl fun Q hQ => ?_
  refine .seq <| .reg <| .mv rfl rfl <| .nil <| .seq <| .seq <| .reg <| .mv rfl rfl <| .len rfl rfl rfl <| .mv rfl rfl <| .nil <| .block <| ?_
  refine RA.loopI fun T0 hT0 nT0 eT0 => ?_
  have L0 : ∀ (post pre : List Ms)  (Q : Qst), ps = pre ++ post → Q (i64 (idxP (fun a => !bufOk lo hi a) post pre.length)) [] → RA Y a148 T0 [(0, .fro true 3 (ps.map Ms.c)), (1, .clo 97 [.fptr [i64 lo] 0, .fptr [i64 hi] 0]), (7, i64 ps.length), (8, i64 pre.length)] [] 0 Q := by
    intro post
    induction post with
    | nil =>
      intro pre  Q hc  hQ
      have hl : ps.length = pre.length := by simp [hc]
      rw [eT0]
      refine .seq <| .reg <| .lssF rfl rfl rfl (by omega) <| .nil <| .seq <| .condF rfl <| .exit rfl <| .seq <| .reg <| .mv rfl rfl <| .nil <| .ret rfl hQ .r LeBs.refl
    | cons a post ih =>
      intro pre  Q hc  hQ
      have hl : ps.length = pre.length + post.length + 1 := by simp [hc]; omega
      have ha : ps[pre.length]? = some a := by simp [hc]
      rw [eT0]
      refine .seq <| .reg <| .lssT rfl rfl rfl (by omega) <| .nil <| .seq <| .condT rfl <| .skip <| .seq <| .block <| .seq <| .reg <| .mv rfl rfl <| .mv rfl rfl <| .nil <| .seq <| .reg <| .mv rfl rfl <| .mv rfl rfl <| .mv rfl rfl <| .ia rfl rfl rfl (by assumption) <| .aF rfl rfl rfl <| .c rfl rfl rfl (i_depthOf_1 a lo hi hlh) .refl rfl rfl rfl (by decide) <| .bB (fun h2 => ?_) (fun h2 => ?_)
      · simp [idxP, h2] at hQ
        refine .nil <| .condT rfl <| .seq <| .reg <| .mv rfl rfl <| .mv rfl rfl <| .nil <| .ret rfl hQ .r LeBs.refl
      · refine .nil <| .condF rfl <| .skip <| .inBlock <| .reg <| .add rfl rfl rfl (by omega) <| .mv rfl rfl <| .nil <| hT0 <| ?_
        exact RA.wq [] (ih (pre ++ [a])  _ (by simp [hc])  (by simpa [idxP, *] using hQ)) nT0
  exact RA.wq [] (L0 ps []  _ rfl  hQ) nT0
theorem ContainsFunc_depthOf (ps : List Ms) (lo hi : Int) (hlh : -1000000 ≤ hi ∧ hi ≤ 1000000) (h : ps.length ≤ 1000000) : RF Y 96 [.fro true 3 (ps.map Ms.c), .clo 97 [.fptr [i64 lo] 0, .fptr [i64 hi] 0]] (.b (ps.any fun a => !bufOk lo hi a)) [] := by
  refine RF.s2 rfl rfl rfl fun Q hQ => ?_
  refine .seq <| .reg <| .mv rfl rfl <| .nil <| .seq <| .reg <| .mv rfl rfl <| .mv rfl rfl <| .c rfl rfl rfl (IndexFunc_depthOf ps lo hi hlh h) .refl rfl rfl rfl (by decide) <| .geq rfl rfl rfl (fun h1 => ?_) (fun h1 => ?_)
  · refine .mv rfl rfl <| .nil <| .ret rfl hQ (.be (by rw [← idxP_any _ ps 0]; simp; omega)) LeBs.refl
  · refine .mv rfl rfl <| .nil <| .ret rfl hQ (.be (by rw [← idxP_any _ ps 0]; simp; omega)) LeBs.refl
theorem i_leafOk (t : Tr) (lo hi : Int) (h : t.sz ≤ 1000000) (hl0 : 0 ≤ lo ∧ lo ≤ 1000) (hh : 0 ≤ hi ∧ hi ≤ 1000) : RF Y 94 [.agg t.e, i64 lo, i64 hi] (.b (leafOk t lo hi)) [] := by
  refine RF.s3 rfl rfl rfl fun Q hQ => ?_
  obtain ⟨hz1, hz2, hz3, hz4⟩ := Tr.lens h
  refine .seq <| .reg <| .box rfl rfl rfl <| .box rfl rfl rfl <| .box rfl rfl rfl <| .mv rfl rfl <| .nil <| .seq <| .seq <| .reg <| .fa rfl rfl <| .ldE rfl rfl rfl rfl <| .c rfl rfl rfl (i_MapOk t.ps hz1) .refl rfl rfl rfl (by decide) <| .bB (fun h1 => ?_) (fun h1 => ?_)
  · refine .notT rfl rfl <| .mv rfl rfl <| .g rfl rfl <| .fa rfl rfl <| .g rfl rfl <| .ldE rfl rfl rfl rfl <| .g rfl rfl <| .len rfl rfl rfl <| .g rfl rfl <| .gtr rfl rfl rfl (fun h2 => ?_) (fun h2 => ?_)
    · rw [show leafOk t lo hi = false by have : ¬ t.ps.length ≤ 4 := (by omega); simp [leafOk, this]] at hQ
      refine .pickF rfl rfl rfl <| .mv rfl rfl <| .gs rfl rfl rfl <| .gs rfl rfl rfl <| .gs rfl rfl rfl <| .gs rfl rfl rfl <| .pickT rfl rfl rfl <| .mv rfl rfl <| .gs rfl rfl rfl <| .gs rfl rfl rfl <| .gs rfl rfl rfl <| .gs rfl rfl rfl <| .pickT rfl rfl rfl <| .mv rfl rfl <| .gs rfl rfl rfl <| .gs rfl rfl rfl <| .gs rfl rfl rfl <| .gs rfl rfl rfl <| .pickT rfl rfl rfl <| .nil <| .condT rfl <| .seq <| .reg <| .mv rfl rfl <| .nil <| .ret rfl hQ .r LeBs.refl
    · refine .pickF rfl rfl rfl <| .mv rfl rfl <| .g rfl rfl <| .fa rfl rfl <| .g rfl rfl <| .ldE rfl rfl rfl rfl <| .g rfl rfl <| .len rfl rfl rfl <| .g rfl rfl <| .gtr rfl rfl rfl (fun h3 => ?_) (fun h3 => ?_)
      · rw [show leafOk t lo hi = false by have : ¬ t.cs.length + t.ks.length + t.bs.length = 0 := (by omega); simp only [leafOk, decide_eq_false this]; simp] at hQ
        refine .pickF rfl rfl rfl <| .mv rfl rfl <| .gs rfl rfl rfl <| .gs rfl rfl rfl <| .gs rfl rfl rfl <| .gs rfl rfl rfl <| .pickT rfl rfl rfl <| .mv rfl rfl <| .gs rfl rfl rfl <| .gs rfl rfl rfl <| .gs rfl rfl rfl <| .gs rfl rfl rfl <| .pickT rfl rfl rfl <| .nil <| .condT rfl <| .seq <| .reg <| .mv rfl rfl <| .nil <| .ret rfl hQ .r LeBs.refl
      · refine .pickF rfl rfl rfl <| .mv rfl rfl <| .g rfl rfl <| .fa rfl rfl <| .g rfl rfl <| .ldE rfl rfl rfl rfl <| .g rfl rfl <| .len rfl rfl rfl <| .g rfl rfl <| .gtr rfl rfl rfl (fun h4 => ?_) (fun h4 => ?_)
        · rw [show leafOk t lo hi = false by have : ¬ t.cs.length + t.ks.length + t.bs.length = 0 := (by omega); simp only [leafOk, decide_eq_false this]; simp] at hQ
          refine .pickF rfl rfl rfl <| .mv rfl rfl <| .gs rfl rfl rfl <| .gs rfl rfl rfl <| .gs rfl rfl rfl <| .gs rfl rfl rfl <| .pickT rfl rfl rfl <| .nil <| .condT rfl <| .seq <| .reg <| .mv rfl rfl <| .nil <| .ret rfl hQ .r LeBs.refl
        · refine .pickF rfl rfl rfl <| .mv rfl rfl <| .g rfl rfl <| .fa rfl rfl <| .g rfl rfl <| .ldE rfl rfl rfl rfl <| .g rfl rfl <| .len rfl rfl rfl <| .g rfl rfl <| .gtr rfl rfl rfl (fun h5 => ?_) (fun h5 => ?_)
          · rw [show leafOk t lo hi = false by have : ¬ t.cs.length + t.ks.length + t.bs.length = 0 := (by omega); simp only [leafOk, decide_eq_false this]; simp] at hQ
            refine .pickF rfl rfl rfl <| .nil <| .condT rfl <| .seq <| .reg <| .mv rfl rfl <| .nil <| .ret rfl hQ .r LeBs.refl
          · rw [show leafOk t lo hi = !(t.ps.any fun a => !inK lo hi a.k) by have e1 : t.ps.length ≤ 4 := (by omega); have e2 : t.cs.length + t.ks.length + t.bs.length = 0 := (by omega); simp only [leafOk, h1, decide_eq_true e1, decide_eq_true e2, Bool.true_and]; exact all_any _ _] at hQ
            refine .pickF rfl rfl rfl <| .nil <| .condF rfl <| .skip <| .seq <| .reg <| .fa rfl rfl <| .ldE rfl rfl rfl rfl <| .mf rfl <| .c rfl rfl rfl (ContainsFunc_leafOk t.ps lo hi (by omega) hz1) .refl rfl rfl rfl (by decide) <| .not rfl rfl <| .mv rfl rfl <| .nil <| .ret rfl hQ .r LeBs.refl
  · rw [show leafOk t lo hi = false by simp [leafOk, h1]] at hQ
    refine .notF rfl rfl <| .mv rfl rfl <| .gs rfl rfl rfl <| .gs rfl rfl rfl <| .gs rfl rfl rfl <| .gs rfl rfl rfl <| .pickT rfl rfl rfl <| .mv rfl rfl <| .gs rfl rfl rfl <| .gs rfl rfl rfl <| .gs rfl rfl rfl <| .gs rfl rfl rfl <| .pickT rfl rfl rfl <| .mv rfl rfl <| .gs rfl rfl rfl <| .gs rfl rfl rfl <| .gs rfl rfl rfl <| .gs rfl rfl rfl <| .pickT rfl rfl rfl <| .mv rfl rfl <| .gs rfl rfl rfl <| .gs rfl rfl rfl <| .gs rfl rfl rfl <| .gs rfl rfl rfl <| .pickT rfl rfl rfl <| .nil <| .condT rfl <| .seq <| .reg <| .mv rfl rfl <| .nil <| .ret rfl hQ .r LeBs.refl
theorem i_kidOf (cs : List Int) (k : Int) (h : cs.length ≤ 1000000) : RF Y 111 [.fro true 1 (cs.map Ic), i64 k] (i64 (cntK k cs : Nat)) [] := by
  refine RF.s2 rfl rfl rfl fun Q hQ => ?_
  refine .seq <| .reg <| .mv rfl rfl <| .nil <| .seq <| .reg <| .mv rfl rfl <| .nil <| .seq <| .seq <| .reg <| .mv rfl rfl <| .len rfl rfl rfl <| .mv rfl rfl <| .nil <| .block <| ?_
  refine RA.loopI fun T0 hT0 nT0 eT0 => ?_
  have L0 : ∀ (post pre : List Int) (n : Nat) (Q : Qst), cs = pre ++ post → n ≤ pre.length → Q (i64 (n + cntK k post : Nat)) [] → RA Y a111 T0 [(1, i64 k), (5, i64 n), (8, .fro true 1 (cs.map Ic)), (9, i64 cs.length), (10, i64 pre.length)] [] 0 Q := by
    intro post
    induction post with
    | nil =>
      intro pre n Q hc hn hQ
      have hl : cs.length = pre.length := by simp [hc]
      rw [eT0]
      refine .seq <| .reg <| .lssF rfl rfl rfl (by omega) <| .nil <| .seq <| .condF rfl <| .exit rfl <| .seq <| .reg <| .mv rfl rfl <| .mv rfl rfl <| .nil <| .ret rfl hQ .r LeBs.refl
    | cons a post ih =>
      intro pre n Q hc hn hQ
      have hl : cs.length = pre.length + post.length + 1 := by simp [hc]; omega
      have ha : cs[pre.length]? = some a := by simp [hc]
      rw [eT0]
      refine .seq <| .reg <| .lssT rfl rfl rfl (by omega) <| .nil <| .seq <| .condT rfl <| .skip <| .seq <| .block <| .seq <| .reg <| .ia rfl rfl rfl (by assumption) <| .ldF rfl rfl rfl <| .mv rfl rfl <| .nil <| .seq <| .reg <| .mv rfl rfl <| .mv rfl rfl <| .leq rfl rfl rfl (fun h2 => ?_) (fun h2 => ?_)
      · refine .nil <| .condT rfl <| .reg <| .mv rfl rfl <| .add rfl rfl rfl (by omega) <| .mv rfl rfl <| .nil <| .inBlock <| .reg <| .add rfl rfl rfl (by omega) <| .mv rfl rfl <| .nil <| hT0 <| ?_
        exact RA.wq [] (ih (pre ++ [a]) (n + 1) _ (by simp [hc]) (by simp; omega) (by simp only [cntK, if_pos h2] at hQ; rw [Nat.add_assoc]; exact hQ)) nT0
      · refine .nil <| .condF rfl <| .skip <| .inBlock <| .reg <| .add rfl rfl rfl (by omega) <| .mv rfl rfl <| .nil <| hT0 <| ?_
        exact RA.wq [] (ih (pre ++ [a]) n _ (by simp [hc]) (by simp; omega) (by simp only [cntK, if_neg h2, Nat.zero_add] at hQ; exact hQ)) nT0
  exact RA.wq [] (L0 cs [] 0 _ rfl (by simp) (by simpa using hQ)) nT0
theorem i_countOf_s (t : Tr) (rec : ∀ k : Tr, k.sz < t.sz → RF Y 68 [.agg k.e] (.tup [i64 (k.np : Nat), i64 (k.nm : Nat)]) []) (h : t.sz ≤ 1000000) : RF Y 68 [.agg t.e] (.tup [i64 (t.np : Nat), i64 (t.nm : Nat)]) [] := by
  refine RF.s1 rfl rfl rfl fun Q hQ => ?_
  obtain ⟨hz1, hz2, hz3, hz4⟩ := Tr.lens h
  have hcn := t.cnt_le
  rw [Tr.np_eq, Tr.nm_eq] at hQ hcn
  refine .seq <| .reg <| .box rfl rfl rfl <| .mv rfl rfl <| .mv rfl rfl <| .nil <| .seq <| .regD <| .fa rfl rfl <| .ldE rfl rfl rfl rfl <| .len rfl rfl rfl <| .fa rfl rfl <| .ldE rfl rfl rfl rfl <| .len rfl rfl rfl <| .mv rfl rfl <| .mv rfl rfl <| .nil (by kernel_rfl) <| .seq <| .seq <| .reg <| .fa rfl rfl <| .ldE rfl rfl rfl rfl <| .len rfl rfl rfl <| .mv rfl rfl <| .nil <| .block <| ?_
  refine RA.loopI fun T0 hT0 nT0 eT0 => ?_
  have L0 : ∀ (post pre : List Tr) (p m : Nat) (Q : Qst), t.ks = pre ++ post → p + Tr.npL post + (m + Tr.nmL post) ≤ 1000000 → Q (.tup [i64 (p + Tr.npL post : Nat), i64 (m + Tr.nmL post : Nat)]) [] → RA Y a68 T0 [(4, i64 p), (5, i64 m), (17, .fro false 5 (t.ks.map Tr.c)), (18, i64 t.ks.length), (19, i64 pre.length)] [] 0 Q := by
    intro post
    induction post with
    | nil =>
      intro pre p m Q hc hpm hQ
      have hl : t.ks.length = pre.length := by simp [hc]
      rw [eT0]
      refine .seq <| .reg <| .lssF rfl rfl rfl (by omega) <| .nil <| .seq <| .condF rfl <| .exit rfl <| .seq <| .reg <| .mv rfl rfl <| .mv rfl rfl <| .mv rfl rfl <| .mv rfl rfl <| .nil <| .ret rfl hQ .r LeBs.refl
    | cons a post ih =>
      intro pre p m Q hc hpm hQ
      have hl : t.ks.length = pre.length + post.length + 1 := by simp [hc]; omega
      have ha : t.ks[pre.length]? = some a := by simp [hc]
      simp only [Tr.npL, Tr.nmL] at hQ hpm
      rw [eT0]
      refine .seq <| .reg <| .lssT rfl rfl rfl (by omega) <| .nil <| .seq <| .condT rfl <| .skip <| .seq <| .block <| .seq <| .reg <| .ia rfl rfl rfl (by assumption) <| .aF rfl rfl rfl <| .new rfl <| .stA rfl rfl rfl rfl rfl rfl <| .nil <| .seq <| .reg <| .aE rfl rfl rfl rfl <| .c rfl rfl rfl (rec a (Tr.kid_sz (List.mem_of_getElem? ha))) .refl rfl rfl rfl (by decide) <| .mv rfl rfl <| .ex rfl rfl rfl <| .ex rfl rfl rfl <| .mv rfl rfl <| .mv rfl rfl <| .nil <| .seq <| .reg <| .mv rfl rfl <| .mv rfl rfl <| .add rfl rfl rfl (by omega) <| .mv rfl rfl <| .nil <| .reg <| .mv rfl rfl <| .mv rfl rfl <| .add rfl rfl rfl (by omega) <| .mv rfl rfl <| .nil <| .inBlock <| .reg <| .add rfl rfl rfl (by omega) <| .mv rfl rfl <| .nil <| hT0 <| ?_
      exact RA.wq [] (ih (pre ++ [a]) (p + a.np) (m + a.nm) _ (by simp [hc]) (by omega) (by rw [Nat.add_assoc, Nat.add_assoc]; exact hQ)) nT0
  exact RA.wq [] (L0 t.ks [] t.ps.length t.bs.length _ rfl (by omega) hQ) nT0
theorem i_countOf (t : Tr) (h : t.sz ≤ 1000000) : RF Y 68 [.agg t.e] (.tup [i64 (t.np : Nat), i64 (t.nm : Nat)]) [] := by
  have : ∀ (n : Nat) (t : Tr), t.sz ≤ n → t.sz ≤ 1000000 → RF Y 68 [.agg t.e] (.tup [i64 (t.np : Nat), i64 (t.nm : Nat)]) [] := by
    intro n
    induction n with
    | zero => intro t h0; have := t.sz_pos; omega
    | succ n ih => intro t h0 h1; exact i_countOf_s t (fun k hk => ih k (by omega) (by omega)) h1
  exact this _ t (Nat.le_refl _) h
theorem i_depthOf_0 (t : Tr) (lo hi : Int) : RF Y 48 [.agg t.e, i64 lo, i64 hi, i64 (0 : Nat)] (i64 (0 : Nat)) [] := by
  refine RF.s4 rfl rfl rfl fun Q hQ => ?_
  refine .seq <| .reg <| .box rfl rfl rfl <| .box rfl rfl rfl <| .box rfl rfl rfl <| .mv rfl rfl <| .nil <| .seq <| .seq <| .reg <| .mv rfl rfl <| .eqlT rfl rfl rfl rfl <| .nil <| .condT rfl <| .seq <| .reg <| .mv rfl rfl <| .nil <| .ret rfl hQ .r LeBs.refl
theorem i_depthOf_s (n : Nat) (hn : n ≤ 1000) (rec : ∀ (t : Tr) (lo hi : Int), t.sz ≤ 1000000 → 0 ≤ lo ∧ lo ≤ 1000 → 0 ≤ hi ∧ hi ≤ 1000 → RF Y 48 [.agg t.e, i64 lo, i64 hi, i64 n] (i64 (depth n t lo hi : Nat)) []) (t : Tr) (lo hi : Int) (h : t.sz ≤ 1000000) (hl0 : 0 ≤ lo ∧ lo ≤ 1000) (hh : 0 ≤ hi ∧ hi ≤ 1000) : RF Y 48 [.agg t.e, i64 lo, i64 hi, i64 (n + 1 : Nat)] (i64 (depth (n + 1) t lo hi : Nat)) [] := by
  refine RF.s4 rfl rfl rfl fun Q hQ => ?_
  obtain ⟨hz1, hz2, hz3, hz4⟩ := Tr.lens h
  refine .seq <| .reg <| .box rfl rfl rfl <| .box rfl rfl rfl <| .box rfl rfl rfl <| .mv rfl rfl <| .nil <| .seq <| .seq <| .reg <| .mv rfl rfl <| .eqlF rfl rfl rfl (by omega) <| .nil <| .condF rfl <| .skip <| .seq <| .seq <| .reg <| .fa rfl rfl <| .ldE rfl rfl rfl rfl <| .bB (fun h2 => ?_) (fun h2 => ?_)
  · refine .nil <| .condT rfl <| .seq <| .seq <| .reg <| .aE rfl rfl rfl rfl <| .ldE rfl rfl rfl rfl <| .ldE rfl rfl rfl rfl <| .c rfl rfl rfl (i_leafOk t lo hi h hl0 hh) .refl rfl rfl rfl (by decide) <| .bB (fun h3 => ?_) (fun h3 => ?_)
    · rw [show depth (n + 1) t lo hi = 1 by simp [depth, h2, h3]] at hQ
      refine .notT rfl rfl <| .nil <| .condF rfl <| .skip <| .seq <| .reg <| .mv rfl rfl <| .nil <| .ret rfl hQ .r LeBs.refl
    · rw [show depth (n + 1) t lo hi = 0 by simp [depth, h2, h3]] at hQ
      refine .notF rfl rfl <| .nil <| .condT rfl <| .seq <| .reg <| .mv rfl rfl <| .nil <| .ret rfl hQ .r LeBs.refl
  · refine .nil <| .condF rfl <| .skip <| .seq <| .seq <| .reg <| .fa rfl rfl <| .ldE rfl rfl rfl rfl <| .len rfl rfl rfl <| .c rfl rfl rfl (i_within ..) .refl rfl rfl rfl (by decide) <| .bB (fun h4 => ?_) (fun h4 => ?_)
    · refine .notT rfl rfl <| .mv rfl rfl <| .g rfl rfl <| .fa rfl rfl <| .g rfl rfl <| .ldE rfl rfl rfl rfl <| .g rfl rfl <| .len rfl rfl rfl <| .g rfl rfl <| .fa rfl rfl <| .g rfl rfl <| .ldE rfl rfl rfl rfl <| .g rfl rfl <| .len rfl rfl rfl <| .g rfl rfl <| .sub rfl rfl rfl (by omega) <| .g rfl rfl <| .neq rfl rfl rfl (fun h5 => ?_) (fun h5 => ?_)
      · rw [show depth (n + 1) t lo hi = 0 by have hno : ¬ nodeOk t = true := (by simp only [nodeOk, Bool.and_eq_true, decide_eq_true_eq]; omega); simp [depth, h2, hno]] at hQ
        refine .pickF rfl rfl rfl <| .mv rfl rfl <| .gs rfl rfl rfl <| .gs rfl rfl rfl <| .gs rfl rfl rfl <| .gs rfl rfl rfl <| .pickT rfl rfl rfl <| .mv rfl rfl <| .gs rfl rfl rfl <| .gs rfl rfl rfl <| .gs rfl rfl rfl <| .gs rfl rfl rfl <| .pickT rfl rfl rfl <| .nil <| .condT rfl <| .seq <| .reg <| .mv rfl rfl <| .nil <| .ret rfl hQ .r LeBs.refl
      · refine .pickF rfl rfl rfl <| .mv rfl rfl <| .g rfl rfl <| .fa rfl rfl <| .g rfl rfl <| .ldE rfl rfl rfl rfl <| .g rfl rfl <| .len rfl rfl rfl <| .g rfl rfl <| .gtr rfl rfl rfl (fun h6 => ?_) (fun h6 => ?_)
        · rw [show depth (n + 1) t lo hi = 0 by have hno : ¬ nodeOk t = true := (by simp only [nodeOk, Bool.and_eq_true, decide_eq_true_eq]; omega); simp [depth, h2, hno]] at hQ
          refine .pickF rfl rfl rfl <| .mv rfl rfl <| .gs rfl rfl rfl <| .gs rfl rfl rfl <| .gs rfl rfl rfl <| .gs rfl rfl rfl <| .pickT rfl rfl rfl <| .nil <| .condT rfl <| .seq <| .reg <| .mv rfl rfl <| .nil <| .ret rfl hQ .r LeBs.refl
        · refine .pickF rfl rfl rfl <| .mv rfl rfl <| .g rfl rfl <| .fa rfl rfl <| .g rfl rfl <| .ldE rfl rfl rfl rfl <| .g rfl rfl <| .len rfl rfl rfl <| .g rfl rfl <| .gtr rfl rfl rfl (fun h7 => ?_) (fun h7 => ?_)
          · rw [show depth (n + 1) t lo hi = 0 by have hno : ¬ nodeOk t = true := (by simp only [nodeOk, Bool.and_eq_true, decide_eq_true_eq]; omega); simp [depth, h2, hno]] at hQ
            refine .pickF rfl rfl rfl <| .nil <| .condT rfl <| .seq <| .reg <| .mv rfl rfl <| .nil <| .ret rfl hQ .r LeBs.refl
          · have h4' := of_decide_eq_true h4
            have hno : nodeOk t = true := by simp only [nodeOk, Bool.and_eq_true, decide_eq_true_eq]; omega
            have hcs : t.cs.length + 1 = t.ks.length := by omega
            refine .pickF rfl rfl rfl <| .nil <| .condF rfl <| .skip <| .seq <| .seq <| .reg <| .fa rfl rfl <| .ldE rfl rfl rfl rfl <| .mf rfl <| .c rfl rfl rfl (ContainsFunc_depthOf t.bs lo hi (by omega) hz4) .refl rfl rfl rfl (by decide) <| .bB (fun h8 => ?_) (fun h8 => ?_)
            · have hb : t.bs.all (bufOk lo hi) = false := by rw [all_any, h8]; rfl
              rw [show depth (n + 1) t lo hi = 0 by simp only [depth, h2, hno, hb]; simp] at hQ
              refine .nil <| .condT rfl <| .seq <| .reg <| .mv rfl rfl <| .nil <| .ret rfl hQ .r LeBs.refl
            · have hb : t.bs.all (bufOk lo hi) = true := by rw [all_any, h8]; rfl
              rw [show depth (n + 1) t lo hi = kidsD (depth n) hi t.ks t.cs lo none by simp only [depth, h2, hno, hb]; simp] at hQ
              refine .nil <| .condF rfl <| .skip <| .seq <| .reg <| .mv rfl rfl <| .nil <| .seq <| .reg <| .ldE rfl rfl rfl rfl <| .mv rfl rfl <| .nil <| .seq <| .seq <| .reg <| .fa rfl rfl <| .ldE rfl rfl rfl rfl <| .len rfl rfl rfl <| .mv rfl rfl <| .nil <| .block <| ?_
              refine RA.loopI fun T0 hT0 nT0 eT0 => ?_
              have L0 : ∀ (post pre : List Tr) (lo' : Int) (acc : Option Nat) (Q : Qst), t.ks = pre ++ post → acc.getD 0 ≤ n → (acc = none ∧ pre = [] ∨ ∃ e, acc = some e ∧ 0 < pre.length) → 0 ≤ lo' ∧ lo' ≤ 1000 → Q (i64 (kidsD (depth n) hi post (t.cs.drop pre.length) lo' acc : Nat)) [] → RA Y a48 T0 [(3, i64 (n + 1 : Nat)), (4, .elt 0 0 0), (6, .elt 1 0 0), (9, i64 (acc.getD 0 : Nat)), (10, i64 lo'), (57, .fro false 5 (t.ks.map Tr.c)), (58, i64 t.ks.length), (59, i64 pre.length)] [(0, .box t.e), (1, .box [i64 hi])] 2 Q := by
                intro post
                induction post with
                | nil =>
                  intro pre lo' acc Q hc hacc h0 hlo hQ
                  have hl : t.ks.length = pre.length := by simp [hc]
                  simp only [kidsD] at hQ
                  rw [eT0]
                  refine .seq <| .reg <| .lssF rfl rfl rfl (by omega) <| .nil <| .seq <| .condF rfl <| .exit rfl <| .seq <| .reg <| .mv rfl rfl <| .add rfl rfl rfl (by omega) <| .mv rfl rfl <| .nil <| .ret rfl hQ .r LeBs.refl
                | cons a post ih =>
                  intro pre lo' acc Q hc hacc h0 hlo hQ
                  have hl : t.ks.length = pre.length + post.length + 1 := by simp [hc]; omega
                  have ha : t.ks[pre.length]? = some a := by simp [hc]
                  have hka : a.sz ≤ 1000000 := by have := Tr.kid_sz (List.mem_of_getElem? ha); omega
                  rw [eT0]
                  refine .seq <| .reg <| .lssT rfl rfl rfl (by omega) <| .nil <| .seq <| .condT rfl <| .skip <| .seq <| .block <| .seq <| .reg <| .mv rfl rfl <| .ia rfl rfl rfl (by assumption) <| .aF rfl rfl rfl <| .new rfl <| .mv rfl rfl <| .stA rfl rfl rfl rfl rfl rfl <| .nil <| .seq <| .reg <| .ldE rfl rfl rfl rfl <| .mv rfl rfl <| .nil <| .seq <| .seq <| .reg <| .mv rfl rfl <| .fa rfl rfl <| .ldE rfl rfl rfl rfl <| .len rfl rfl rfl <| .lss rfl rfl rfl (fun h10 => ?_) (fun h10 => ?_)
                  · have hci : pre.length < t.cs.length := by omega
                    obtain ⟨c, hcc⟩ : ∃ c, t.cs[pre.length]? = some c := ⟨_, getD_at hci⟩
                    rw [drop_at hcc] at hQ
                    simp only [kidsD] at hQ
                    refine .nil <| .condT rfl <| .reg <| .fa rfl rfl <| .ldE rfl rfl rfl rfl <| .mv rfl rfl <| .ia rfl rfl rfl (by assumption) <| .ldF rfl rfl rfl <| .mv rfl rfl <| .nil <| .seq <| .seq <| .reg <| .mv rfl rfl <| .fa rfl rfl <| .ldE rfl rfl rfl rfl <| .len rfl rfl rfl <| .lssT rfl rfl rfl (by omega) <| .mv rfl rfl <| .g rfl rfl <| .mv rfl rfl <| .g rfl rfl <| .c rfl rfl rfl (i_within ..) .refl rfl rfl rfl (by decide) <| .bB (fun h12 => ?_) (fun h12 => ?_)
                    · refine .g rfl rfl <| .notT rfl rfl <| .g rfl rfl <| .mv rfl rfl <| .g rfl rfl <| .mv rfl rfl <| .g rfl rfl <| .mv rfl rfl <| .g rfl rfl <| .leq rfl rfl rfl (fun h13 => ?_) (fun h13 => ?_)
                      · rw [if_pos (by omega)] at hQ
                        refine .g rfl rfl <| .pickF rfl rfl rfl <| .g rfl rfl <| .mv rfl rfl <| .gs rfl rfl rfl <| .gs rfl rfl rfl <| .gs rfl rfl rfl <| .g rfl rfl <| .pickT rfl rfl rfl <| .pickT rfl rfl rfl <| .nil <| .condT rfl <| .seq <| .reg <| .mv rfl rfl <| .nil <| .ret rfl hQ .r LeBs.refl
                      · refine .g rfl rfl <| .pickF rfl rfl rfl <| .g rfl rfl <| .mv rfl rfl <| .g rfl rfl <| .mv rfl rfl <| .g rfl rfl <| .ldE rfl rfl rfl rfl <| .g rfl rfl <| .geq rfl rfl rfl (fun h14 => ?_) (fun h14 => ?_)
                        · rw [if_pos (by omega)] at hQ
                          refine .g rfl rfl <| .pickF rfl rfl rfl <| .pickT rfl rfl rfl <| .nil <| .condT rfl <| .seq <| .reg <| .mv rfl rfl <| .nil <| .ret rfl hQ .r LeBs.refl
                        · rw [if_neg (not_not_intro (by omega))] at hQ
                          refine .g rfl rfl <| .pickF rfl rfl rfl <| .pickT rfl rfl rfl <| .nil <| .condF rfl <| .skip <| .seq <| .reg <| .aE rfl rfl rfl rfl <| .mv rfl rfl <| .mv rfl rfl <| .mv rfl rfl <| .sub rfl rfl rfl (by omega) <| .c rfl rfl rfl (rec a lo' c hka hlo (by omega)) (.c .r (.c .r (.c .r (.c (.ie (by omega)) .n)))) rfl rfl rfl (by decide) <| .mv rfl rfl <| .nil <| .seq <| .seq <| .reg <| .mv rfl rfl <| .eql rfl rfl rfl (fun h15 => ?_) (fun h15 => ?_)
                          · rw [if_pos (.inl (by omega))] at hQ
                            refine .mv rfl rfl <| .gs rfl rfl rfl <| .gs rfl rfl rfl <| .gs rfl rfl rfl <| .gu rfl rfl <| .gu rfl rfl <| .gu rfl rfl <| .gs rfl rfl rfl <| .pickT rfl rfl rfl <| .nil <| .condT rfl <| .seq <| .reg <| .mv rfl rfl <| .nil <| .ret rfl hQ .r LeBs.refl
                          · refine .mv rfl rfl <| .g rfl rfl <| .mv rfl rfl <| .g rfl rfl <| .gtr rfl rfl rfl (fun h16 => ?_) (fun h16 => ?_)
                            · obtain ⟨e, rfl, he⟩ : ∃ e, acc = some e ∧ 0 < pre.length := h0.resolve_left (fun q => by simp [q.2] at h16)
                              refine .g rfl rfl <| .mv rfl rfl <| .g rfl rfl <| .mv rfl rfl <| .g rfl rfl <| .mv rfl rfl <| .g rfl rfl <| .neq rfl rfl rfl (fun h17 => ?_) (fun h17 => ?_)
                              · rw [if_pos (.inr ⟨e, rfl, fun q => h17 (by rw [q]; rfl)⟩)] at hQ
                                refine .g rfl rfl <| .pickT rfl rfl rfl <| .pickF rfl rfl rfl <| .nil <| .condT rfl <| .seq <| .reg <| .mv rfl rfl <| .nil <| .ret rfl hQ .r LeBs.refl
                              · rw [if_neg (neg_acc (by omega) (fun e' q => by cases q; have := Classical.not_not.1 h17; simp only [Option.getD_some] at this; omega))] at hQ
                                refine .g rfl rfl <| .pickT rfl rfl rfl <| .pickF rfl rfl rfl <| .nil <| .condF rfl <| .skip <| .seq <| .reg <| .mv rfl rfl <| .mv rfl rfl <| .nil <| .reg <| .mv rfl rfl <| .mv rfl rfl <| .nil <| .inBlock <| .reg <| .add rfl rfl rfl (by omega) <| .mv rfl rfl <| .nil <| hT0 <| ?_
                                exact RA.wq [_, _] (ih (pre ++ [a]) c (some (depth n a lo' c)) _ (by simp [hc]) (depth_le n _ _ _) (.inr ⟨_, rfl, by simp⟩) (by omega) (by simpa using hQ)) nT0
                            · rw [if_neg (neg_acc (by omega) (fun e' q => by rcases h0 with ⟨z, _⟩ | ⟨_, _, z⟩ <;> first | (rw [z] at q; cases q) | omega))] at hQ
                              refine .g rfl rfl <| .mv rfl rfl <| .gs rfl rfl rfl <| .gs rfl rfl rfl <| .gs rfl rfl rfl <| .g rfl rfl <| .pickF rfl rfl rfl <| .pickF rfl rfl rfl <| .nil <| .condF rfl <| .skip <| .seq <| .reg <| .mv rfl rfl <| .mv rfl rfl <| .nil <| .reg <| .mv rfl rfl <| .mv rfl rfl <| .nil <| .inBlock <| .reg <| .add rfl rfl rfl (by omega) <| .mv rfl rfl <| .nil <| hT0 <| ?_
                              exact RA.wq [_, _] (ih (pre ++ [a]) c (some (depth n a lo' c)) _ (by simp [hc]) (depth_le n _ _ _) (.inr ⟨_, rfl, by simp⟩) (by omega) (by simpa using hQ)) nT0
                    · rw [if_pos (by have := of_decide_eq_false h12; omega)] at hQ
                      refine .g rfl rfl <| .notF rfl rfl <| .g rfl rfl <| .mv rfl rfl <| .gs rfl rfl rfl <| .gs rfl rfl rfl <| .gs rfl rfl rfl <| .g rfl rfl <| .pickT rfl rfl rfl <| .g rfl rfl <| .mv rfl rfl <| .gs rfl rfl rfl <| .gs rfl rfl rfl <| .gs rfl rfl rfl <| .g rfl rfl <| .pickT rfl rfl rfl <| .pickT rfl rfl rfl <| .nil <| .condT rfl <| .seq <| .reg <| .mv rfl rfl <| .nil <| .ret rfl hQ .r LeBs.refl
                  · rw [show t.cs.drop pre.length = [] from List.drop_eq_nil_of_le (by omega)] at hQ
                    simp only [kidsD] at hQ
                    refine .nil <| .condF rfl <| .skip <| .seq <| .seq <| .reg <| .mv rfl rfl <| .fa rfl rfl <| .ldE rfl rfl rfl rfl <| .len rfl rfl rfl <| .lssF rfl rfl rfl (by omega) <| .mv rfl rfl <| .gs rfl rfl rfl <| .gs rfl rfl rfl <| .gs rfl rfl rfl <| .gs rfl rfl rfl <| .gu rfl rfl <| .gu rfl rfl <| .gu rfl rfl <| .gs rfl rfl rfl <| .gs rfl rfl rfl <| .gu rfl rfl <| .gu rfl rfl <| .gu rfl rfl <| .gs rfl rfl rfl <| .pickF rfl rfl rfl <| .nil <| .condF rfl <| .skip <| .seq <| .reg <| .aE rfl rfl rfl rfl <| .mv rfl rfl <| .mv rfl rfl <| .mv rfl rfl <| .sub rfl rfl rfl (by omega) <| .c rfl rfl rfl (rec a lo' hi hka hlo hh) (.c .r (.c .r (.c .r (.c (.ie (by omega)) .n)))) rfl rfl rfl (by decide) <| .mv rfl rfl <| .nil <| .seq <| .seq <| .reg <| .mv rfl rfl <| .eql rfl rfl rfl (fun h19 => ?_) (fun h19 => ?_)
                    · rw [if_pos (.inl (by omega))] at hQ
                      refine .mv rfl rfl <| .gs rfl rfl rfl <| .gs rfl rfl rfl <| .gs rfl rfl rfl <| .gu rfl rfl <| .gu rfl rfl <| .gu rfl rfl <| .gs rfl rfl rfl <| .pickT rfl rfl rfl <| .nil <| .condT rfl <| .seq <| .reg <| .mv rfl rfl <| .nil <| .ret rfl hQ .r LeBs.refl
                    · refine .mv rfl rfl <| .g rfl rfl <| .mv rfl rfl <| .g rfl rfl <| .gtr rfl rfl rfl (fun h20 => ?_) (fun h20 => ?_)
                      · obtain ⟨e, rfl, he⟩ : ∃ e, acc = some e ∧ 0 < pre.length := h0.resolve_left (fun q => by simp [q.2] at h20)
                        refine .g rfl rfl <| .mv rfl rfl <| .g rfl rfl <| .mv rfl rfl <| .g rfl rfl <| .mv rfl rfl <| .g rfl rfl <| .neq rfl rfl rfl (fun h21 => ?_) (fun h21 => ?_)
                        · rw [if_pos (.inr ⟨e, rfl, fun q => h21 (by rw [q]; rfl)⟩)] at hQ
                          refine .g rfl rfl <| .pickT rfl rfl rfl <| .pickF rfl rfl rfl <| .nil <| .condT rfl <| .seq <| .reg <| .mv rfl rfl <| .nil <| .ret rfl hQ .r LeBs.refl
                        · rw [if_neg (neg_acc (by omega) (fun e' q => by cases q; have := Classical.not_not.1 h21; simp only [Option.getD_some] at this; omega))] at hQ
                          refine .g rfl rfl <| .pickT rfl rfl rfl <| .pickF rfl rfl rfl <| .nil <| .condF rfl <| .skip <| .seq <| .reg <| .mv rfl rfl <| .mv rfl rfl <| .nil <| .reg <| .mv rfl rfl <| .mv rfl rfl <| .nil <| .inBlock <| .reg <| .add rfl rfl rfl (by omega) <| .mv rfl rfl <| .nil <| hT0 <| ?_
                          exact RA.wq [_, _] (ih (pre ++ [a]) hi (some (depth n a lo' hi)) _ (by simp [hc]) (depth_le n _ _ _) (.inr ⟨_, rfl, by simp⟩) hh (by rw [show t.cs.drop (pre ++ [a]).length = [] from List.drop_eq_nil_of_le (by simp; omega)]; exact hQ)) nT0
                      · rw [if_neg (neg_acc (by omega) (fun e' q => by rcases h0 with ⟨z, _⟩ | ⟨_, _, z⟩ <;> first | (rw [z] at q; cases q) | omega))] at hQ
                        refine .g rfl rfl <| .mv rfl rfl <| .gs rfl rfl rfl <| .gs rfl rfl rfl <| .gs rfl rfl rfl <| .g rfl rfl <| .pickF rfl rfl rfl <| .pickF rfl rfl rfl <| .nil <| .condF rfl <| .skip <| .seq <| .reg <| .mv rfl rfl <| .mv rfl rfl <| .nil <| .reg <| .mv rfl rfl <| .mv rfl rfl <| .nil <| .inBlock <| .reg <| .add rfl rfl rfl (by omega) <| .mv rfl rfl <| .nil <| hT0 <| ?_
                        exact RA.wq [_, _] (ih (pre ++ [a]) hi (some (depth n a lo' hi)) _ (by simp [hc]) (depth_le n _ _ _) (.inr ⟨_, rfl, by simp⟩) hh (by rw [show t.cs.drop (pre ++ [a]).length = [] from List.drop_eq_nil_of_le (by simp; omega)]; exact hQ)) nT0
              exact RA.wq [_, _] (L0 t.ks [] lo none _ rfl (by simp) (.inl ⟨rfl, rfl⟩) hl0 hQ) nT0
    · rw [show depth (n + 1) t lo hi = 0 by have hno : ¬ nodeOk t = true := (by have := of_decide_eq_false h4; simp only [nodeOk, Bool.and_eq_true, decide_eq_true_eq]; omega); simp [depth, h2, hno]] at hQ
      refine .notF rfl rfl <| .mv rfl rfl <| .gs rfl rfl rfl <| .gs rfl rfl rfl <| .gs rfl rfl rfl <| .gs rfl rfl rfl <| .gs rfl rfl rfl <| .gs rfl rfl rfl <| .gs rfl rfl rfl <| .gs rfl rfl rfl <| .pickT rfl rfl rfl <| .mv rfl rfl <| .gs rfl rfl rfl <| .gs rfl rfl rfl <| .gs rfl rfl rfl <| .gs rfl rfl rfl <| .pickT rfl rfl rfl <| .mv rfl rfl <| .gs rfl rfl rfl <| .gs rfl rfl rfl <| .gs rfl rfl rfl <| .gs rfl rfl rfl <| .pickT rfl rfl rfl <| .nil <| .condT rfl <| .seq <| .reg <| .mv rfl rfl <| .nil <| .ret rfl hQ .r LeBs.refl
theorem i_depthOf : ∀ (n : Nat) (hn : n ≤ 1000) (t : Tr) (lo hi : Int) (h : t.sz ≤ 1000000) (hl : 0 ≤ lo ∧ lo ≤ 1000) (hh : 0 ≤ hi ∧ hi ≤ 1000), RF Y 48 [.agg t.e, i64 lo, i64 hi, i64 n] (i64 (depth n t lo hi : Nat)) []
  | 0, _, t, lo, hi, _, _, _ => i_depthOf_0 t lo hi
  | n + 1, hn, t, lo, hi, h, hl, hh => i_depthOf_s n (by omega) (fun t lo hi h hl hh => i_depthOf n (by omega) t lo hi h hl hh) t lo hi h hl hh
def kidOfI (t : Tr) (k : Int) : Int := if t.leaf = true ∨ treeOk t = false then -1 else cntK k t.cs
theorem i_TreeDepth (t : Tr) (h : t.sz ≤ 1000000) : RF Y 11 [.agg t.e] (i64 (tdepth t : Nat)) [] := by
  refine RF.s1 rfl rfl rfl fun Q hQ => ?_
  refine .seq <| .reg <| .box rfl rfl rfl <| .mv rfl rfl <| .nil <| .seq <| .reg <| .aE rfl rfl rfl rfl <| .c rfl rfl rfl (i_depthOf 7 (by decide) t 0 1000 h (by decide) (by decide)) .refl rfl rfl rfl (by decide) <| .mv rfl rfl <| .nil <| .ret rfl hQ .r LeBs.refl
theorem i_TreeOk (t : Tr) (h : t.sz ≤ 1000000) : RF Y 18 [.agg t.e] (.b (treeOk t)) [] := by
  refine RF.s1 rfl rfl rfl fun Q hQ => ?_
  refine .seq <| .reg <| .box rfl rfl rfl <| .mv rfl rfl <| .nil <| .seq <| .reg <| .aE rfl rfl rfl rfl <| .c rfl rfl rfl (i_TreeDepth t h) .refl rfl rfl rfl (by decide) <| .gtr rfl rfl rfl (fun h1 => ?_) (fun h1 => ?_)
  · refine .mv rfl rfl <| .nil <| .ret rfl hQ (.be (by simp [treeOk]; omega)) LeBs.refl
  · refine .mv rfl rfl <| .nil <| .ret rfl hQ (.be (by simp [treeOk]; omega)) LeBs.refl
theorem i_TreeCount (t : Tr) (h : t.sz ≤ 1000000) : RF Y 24 [.agg t.e] (.tup [i64 (if treeOk t then t.np else 0 : Nat), i64 (if treeOk t then t.nm else 0 : Nat)]) [] := by
  refine RF.s1 rfl rfl rfl fun Q hQ => ?_
  refine .seq <| .reg <| .box rfl rfl rfl <| .mv rfl rfl <| .mv rfl rfl <| .nil <| .seq <| .seq <| .reg <| .aE rfl rfl rfl rfl <| .c rfl rfl rfl (i_TreeOk t h) .refl rfl rfl rfl (by decide) <| .bB (fun h1 => ?_) (fun h1 => ?_)
  · rw [h1] at hQ
    refine .notT rfl rfl <| .nil <| .condF rfl <| .skip <| .seq <| .reg <| .aE rfl rfl rfl rfl <| .c rfl rfl rfl (i_countOf t h) .refl rfl rfl rfl (by decide) <| .ex rfl rfl rfl <| .ex rfl rfl rfl <| .mv rfl rfl <| .mv rfl rfl <| .nil <| .ret rfl hQ .r LeBs.refl
  · rw [h1] at hQ
    refine .notF rfl rfl <| .nil <| .condT rfl <| .seq <| .reg <| .mv rfl rfl <| .mv rfl rfl <| .nil <| .ret rfl hQ .r LeBs.refl
end Go.Proofs.YtjjocahgbmibeaaGreat
