/- Walks: what a tree tells (the program and the reference). -/
import Derived.Test.YtjjocahgbmibeaaGreatA5
import Derived.Test.YtjjocahgbmibeaaGreatW9
namespace Go.Proofs.YtjjocahgbmibeaaGreat
open Go.Eng
set_option maxRecDepth 4000
set_option linter.unusedSimpArgs false
set_option linter.unusedVariables false
theorem i_treeMapS (t : Tr) (HC : ∀ k, k ∈ t.ks → RF Y 56 [.agg k.e] (.own true 2 0 ((mapT k).map Pr.c)) []) (h : t.sz ≤ 999999) (hl : t.leaf = true → t.ks = [] ∧ t.bs = []) (hn : t.leaf = false → t.ps = []) : RF Y 56 [.agg t.e] (.own true 2 0 ((mapT t).map Pr.c)) [] := by
  refine RF.s1 rfl rfl rfl fun Q hQ => ?_
  obtain ⟨hz1, hz2, hz3, hz4⟩ := Tr.lens h
  have hz := Tr.sz_eq t
  have hzl := mapTL_len t.ks
  refine .seq <| .reg <| .box rfl rfl rfl <| .mv rfl rfl <| .nil <| .seq <| .seq <| .reg <| .fa rfl rfl <| .ldE rfl rfl rfl rfl <| .bB (fun h1 => ?_) (fun h1 => ?_)
  · rw [show mapT t = t.ps by rw [mapT_eq, (hl h1).1, (hl h1).2, mapTL, List.append_nil]; rfl] at hQ
    refine .nil <| .condT rfl <| .seq <| .reg <| .row0 rfl rfl rfl <| .fa rfl rfl <| .ldE rfl rfl rfl rfl <| .ap rfl rfl rfl rfl rfl (by simp; omega) (by decide) <| .mv rfl rfl <| .nil <| .ret rfl hQ (.rw (by first | exact fun _ => rfl | exact fun h => by cases h)) LeBs.refl
  · rw [show mapT t = mapAll ([] ++ mapTL t.ks) t.bs by rw [mapT_eq, hn h1]] at hQ
    refine .nil <| .condF rfl <| .skip <| .seq <| .reg <| .row0 rfl rfl rfl <| .mv rfl rfl <| .nil <| .seq <| .seq <| .reg <| .fa rfl rfl <| .ldE rfl rfl rfl rfl <| .len rfl rfl rfl <| .mv rfl rfl <| .nil <| .block <| ?_
    refine RA.loopI fun T0 hT0 nT0 eT0 => ?_
    have L0 : ∀ (post pre : List Tr) (out : List Pr) (Q : Qst), t.ks = pre ++ post → out.length + Tr.szL post + t.bs.length ≤ 999999 → Q (.own true 2 0 ((mapAll (out ++ mapTL post) t.bs).map Pr.c)) [] → RA Y a56 T0 [(1, .elt 0 0 0), (3, .row 1), (14, .fro false 5 (t.ks.map Tr.c)), (15, i64 t.ks.length), (16, i64 pre.length)] [(0, .box t.e), (1, .row true 2 0 (out.map Pr.c))] 2 Q := by
      intro post
      induction post with
      | nil =>
        intro pre out Q hc ho hQ
        have hl : t.ks.length = pre.length := by simp [hc]
        rw [mapTL, List.append_nil] at hQ
        rw [eT0]
        refine .seq <| .reg <| .lssF rfl rfl rfl (by omega) <| .nil <| .seq <| .condF rfl <| .exit rfl <| .seq <| .reg <| .mv rfl rfl <| .fa rfl rfl <| .ldE rfl rfl rfl rfl <| .c rfl rfl rfl (i_MapAll out t.bs (by omega)) .refl rfl rfl rfl (by decide) <| .mv rfl rfl <| .nil <| .ret rfl hQ (.rw (by first | exact fun _ => rfl | exact fun h => by cases h)) LeBs.refl
      | cons a post ih =>
        intro pre out Q hc ho hQ
        have hl : t.ks.length = pre.length + post.length + 1 := by simp [hc]; omega
        have ha : t.ks[pre.length]? = some a := by simp [hc]
        have hal := mapT_len a
        simp only [Tr.szL] at ho
        rw [eT0]
        refine .seq <| .reg <| .lssT rfl rfl rfl (by omega) <| .nil <| .seq <| .condT rfl <| .skip <| .seq <| .block <| .seq <| .reg <| .ia rfl rfl rfl (by assumption) <| .aF rfl rfl rfl <| .new rfl <| .stA rfl rfl rfl rfl rfl rfl <| .nil <| .reg <| .mv rfl rfl <| .aE rfl rfl rfl rfl <| .c rfl rfl rfl (HC a (by simp [hc])) .refl rfl rfl rfl (by decide) <| .ap rfl rfl rfl rfl rfl (by simp; omega) (by decide) <| .mv rfl rfl <| .nil <| .inBlock <| .reg <| .add rfl rfl rfl (by omega) <| .mv rfl rfl <| .nil <| hT0 <| ?_
        exact RA.wq [_, _] (ih (pre ++ [a]) (out ++ mapT a) _ (by simp [hc]) (by have := mapT_len a; simp only [Tr.szL, List.length_append] at *; omega) (by rw [mapTL, ← List.append_assoc] at hQ; exact hQ)) nT0
    exact RA.wq [_, _] (L0 t.ks [] [] _ rfl (by simp only [List.length_nil]; omega) hQ) nT0
theorem i_treeMap : ∀ (n : Nat) (t : Tr) (lo hi : Int), 0 < depth n t lo hi → t.sz ≤ 999999 → RF Y 56 [.agg t.e] (.own true 2 0 ((mapT t).map Pr.c)) []
  | 0, t, lo, hi, hd, _ => by simp [depth] at hd
  | n + 1, t, lo, hi, hd, h => by
    rcases depth_node hd with ⟨h1, h2, h3, h4, h5, h6⟩ | ⟨h1, h2, h3, h4, h5, h6, h7, h8, _⟩
    · exact i_treeMapS t (fun k hk => by simp [h5] at hk) h (fun _ => ⟨h5, h6⟩) (fun q => by rw [h1] at q; cases q)
    · refine i_treeMapS t (fun k hk => ?_) h (fun q => by rw [h1] at q; cases q) (fun _ => h2)
      obtain ⟨lo', hi', hd'⟩ := kids_right h8 k hk
      exact i_treeMap n k lo' hi' hd' (by have := Tr.kid_sz hk; omega)
theorem i_TreeMap (t : Tr) (h : t.sz ≤ 999999) : RF Y 15 [.agg t.e] (.own true 2 0 ((tmap t).map Pr.c)) [] := by
  refine RF.s1 rfl rfl rfl fun Q hQ => ?_
  refine .seq <| .reg <| .box rfl rfl rfl <| .mv rfl rfl <| .nil <| .seq <| .seq <| .reg <| .aE rfl rfl rfl rfl <| .c rfl rfl rfl (i_TreeOk t (by omega)) .refl rfl rfl rfl (by decide) <| .bB (fun h1 => ?_) (fun h1 => ?_)
  · have hd : 0 < depth 7 t 0 1000 := of_decide_eq_true h1
    rw [tmap, if_pos h1] at hQ
    refine .notT rfl rfl <| .nil <| .condF rfl <| .skip <| .seq <| .reg <| .aE rfl rfl rfl rfl <| .c rfl rfl rfl (i_treeMap 7 t 0 1000 hd h) .refl rfl rfl rfl (by decide) <| .mv rfl rfl <| .nil <| .ret rfl hQ (by first | exact .nilO | exact .rw (fun _ => rfl) | exact .ox rfl (fun _ => rfl)) LeBs.refl
  · rw [tmap, if_neg (by simp [h1])] at hQ
    refine .notF rfl rfl <| .nil <| .condT rfl <| .seq <| .reg <| .mv rfl rfl <| .nil <| .ret rfl hQ (by first | exact .nilO | exact .rw (fun _ => rfl) | exact .ox rfl (fun _ => rfl)) LeBs.refl
end Go.Proofs.YtjjocahgbmibeaaGreat

namespace Go.Proofs.YtjjocahgbmibeaaGreat
open Go.Eng
set_option maxRecDepth 4000
set_option linter.unusedSimpArgs false
set_option linter.unusedVariables false
theorem eqa_Ms (n : Nat) (m : Mem) (a : Ms) : act n m (.eqa true [(0, false), (1, false), (2, false)] (.agg (Ms.c a)) (.agg (Ms.c a))) = some (.b false, []) := by
  simp [act, eqCells, eqCell, Ms.c]
theorem eqa_Pr (n : Nat) (m : Mem) (a : Pr) : act n m (.eqa true [(0, false), (1, false)] (.agg (Pr.c a)) (.agg (Pr.c a))) = some (.b false, []) := by
  simp [act, eqCells, eqCell, Pr.c]
theorem l_sameMsgs (l : List Ms) (h : l.length ≤ 1000000) : RF Y 64 [.fro true 3 (l.map Ms.c), .fro true 3 (l.map Ms.c)] (.b true) [] := by
  refine RF.s2 rfl rfl rfl fun Q hQ => ?_
  refine .seq <| .reg <| .mv rfl rfl <| .nil <| .seq <| .seq <| .reg <| .mv rfl rfl <| .len rfl rfl rfl <| .mv rfl rfl <| .len rfl rfl rfl <| .neq rfl rfl rfl (fun h1 => ?_) (fun h1 => ?_)
  · exact absurd rfl h1
  · refine .nil <| .condF rfl <| .skip <| .seq <| .seq <| .reg <| .mv rfl rfl <| .nil <| .block <| ?_
    refine RA.loopI fun T0 hT0 nT0 eT0 => ?_
    have L0 : ∀ (post pre : List Ms)  (Q : Qst), l = pre ++ post → Q (.b true) [] → RA Y a64 T0 [(0, .fro true 3 (l.map Ms.c)), (1, .fro true 3 (l.map Ms.c)), (5, i64 pre.length)] [] 0 Q := by
      intro post
      induction post with
      | nil =>
        intro pre  Q hc  hQ
        have hl : l.length = pre.length := by simp [hc]
        rw [eT0]
        refine .seq <| .seq <| .reg <| .mv rfl rfl <| .mv rfl rfl <| .len rfl rfl rfl <| .lssF rfl rfl rfl (by omega) <| .nil <| .condF rfl <| .exit rfl <| .seq <| .reg <| .mv rfl rfl <| .nil <| .ret rfl hQ .r LeBs.refl
      | cons a post ih =>
        intro pre  Q hc  hQ
        have hl : l.length = pre.length + post.length + 1 := by simp [hc]; omega
        have ha : l[pre.length]? = some a := by simp [hc]
        rw [eT0]
        refine .seq <| .seq <| .reg <| .mv rfl rfl <| .mv rfl rfl <| .len rfl rfl rfl <| .lssT rfl rfl rfl (by omega) <| .nil <| .condT rfl <| .skip <| .seq <| .block <| .seq <| .regD <| .mv rfl rfl <| .mv rfl rfl <| .ia rfl rfl rfl (by assumption) <| .aF rfl rfl rfl <| .mv rfl rfl <| .mv rfl rfl <| .ia rfl rfl rfl (by assumption) <| .aF rfl rfl rfl <| .p rfl (eqa_Ms _ _ _) <| .bB (fun h3 => ?_) (fun h3 => ?_)
        · cases h3
        · refine .nil (by kernel_rfl) <| .condF rfl <| .skip <| .inBlock <| .reg <| .mv rfl rfl <| .add rfl rfl rfl (by omega) <| .mv rfl rfl <| .nil <| hT0 <| ?_
          exact RA.wq [] (ih (pre ++ [a])  _ (by simp [hc])  hQ) nT0
    exact RA.wq [] (L0 l []  _ rfl  hQ) nT0
theorem l_samePairs (l : List Pr) (h : l.length ≤ 1000000) : RF Y 14 [.fro true 2 (l.map Pr.c), .fro true 2 (l.map Pr.c)] (.b true) [] := by
  refine RF.s2 rfl rfl rfl fun Q hQ => ?_
  refine .seq <| .reg <| .mv rfl rfl <| .nil <| .seq <| .seq <| .reg <| .mv rfl rfl <| .len rfl rfl rfl <| .mv rfl rfl <| .len rfl rfl rfl <| .neq rfl rfl rfl (fun h1 => ?_) (fun h1 => ?_)
  · exact absurd rfl h1
  · refine .nil <| .condF rfl <| .skip <| .seq <| .seq <| .reg <| .mv rfl rfl <| .nil <| .block <| ?_
    refine RA.loopI fun T0 hT0 nT0 eT0 => ?_
    have L0 : ∀ (post pre : List Pr)  (Q : Qst), l = pre ++ post → Q (.b true) [] → RA Y a14 T0 [(0, .fro true 2 (l.map Pr.c)), (1, .fro true 2 (l.map Pr.c)), (5, i64 pre.length)] [] 0 Q := by
      intro post
      induction post with
      | nil =>
        intro pre  Q hc  hQ
        have hl : l.length = pre.length := by simp [hc]
        rw [eT0]
        refine .seq <| .seq <| .reg <| .mv rfl rfl <| .mv rfl rfl <| .len rfl rfl rfl <| .lssF rfl rfl rfl (by omega) <| .nil <| .condF rfl <| .exit rfl <| .seq <| .reg <| .mv rfl rfl <| .nil <| .ret rfl hQ .r LeBs.refl
      | cons a post ih =>
        intro pre  Q hc  hQ
        have hl : l.length = pre.length + post.length + 1 := by simp [hc]; omega
        have ha : l[pre.length]? = some a := by simp [hc]
        rw [eT0]
        refine .seq <| .seq <| .reg <| .mv rfl rfl <| .mv rfl rfl <| .len rfl rfl rfl <| .lssT rfl rfl rfl (by omega) <| .nil <| .condT rfl <| .skip <| .seq <| .block <| .seq <| .regD <| .mv rfl rfl <| .mv rfl rfl <| .ia rfl rfl rfl (by assumption) <| .aF rfl rfl rfl <| .mv rfl rfl <| .mv rfl rfl <| .ia rfl rfl rfl (by assumption) <| .aF rfl rfl rfl <| .p rfl (eqa_Pr _ _ _) <| .bB (fun h3 => ?_) (fun h3 => ?_)
        · cases h3
        · refine .nil (by kernel_rfl) <| .condF rfl <| .skip <| .inBlock <| .reg <| .mv rfl rfl <| .add rfl rfl rfl (by omega) <| .mv rfl rfl <| .nil <| hT0 <| ?_
          exact RA.wq [] (ih (pre ++ [a])  _ (by simp [hc])  hQ) nT0
    exact RA.wq [] (L0 l []  _ rfl  hQ) nT0
def atI (code : List UInt8) (i : Nat) : Int := match code[i]? with
  | some u => (u.toNat : Int)
  | none => ((i : Int) * 7 + code.length).tmod 256
end Go.Proofs.YtjjocahgbmibeaaGreat
