/- Walks: what a tree tells (the program and the reference). -/
import Derived.Test.YtjjocahgbmibeaaGreatA5
import Derived.Test.YtjjocahgbmibeaaGreatW9
namespace Go.Proofs.YtjjocahgbmibeaaGreat
open Go.Eng
set_option maxRecDepth 4000
set_option linter.unusedSimpArgs false
set_option linter.unusedVariables false
theorem i_leafOf (n : Nat) (t : Tr) (k lo hi : Int) (hd : 0 < depth n t lo hi) (h : t.sz ≤ 1000000) : RF Y 76 [.agg t.e, i64 k] (.agg (leafF n t k).e) [] := by
  refine RF.s2 rfl rfl rfl fun Q hQ => ?_
  refine .seq <| .reg <| .box rfl rfl rfl <| .new rfl <| .nil <| .seq <| .block <| ?_
  refine RA.loopI fun T0 hT0 nT0 eT0 => ?_
  have L0 : ∀ (n : Nat) (t : Tr) (lo hi : Int) (Q : Qst), 0 < depth n t lo hi → t.sz ≤ 1000000 → Q (.agg (leafF n t k).e) [] →
      RA Y a76 T0 [(1, i64 k), (2, .elt 0 0 0), (4, .elt 1 0 0)] [(0, .box t.e), (1, .box [.b false, .emp, .emp, .emp, .emp])] 2 Q := by
    intro n
    induction n with
    | zero => intro t lo hi Q hd; simp [depth] at hd
    | succ n ih =>
      intro t lo hi Q hd h hQ
      obtain ⟨hz1, hz2, hz3, hz4⟩ := Tr.lens h
      rw [eT0]
      refine .seq <| .seq <| .reg <| .fa rfl rfl <| .ldE rfl rfl rfl rfl <| .bB (fun h1 => ?_) (fun h1 => ?_)
      · rw [leafF, if_pos h1] at hQ
        refine .notT rfl rfl <| .nil <| .condF rfl <| .exit rfl <| .seq <| .reg <| .aE rfl rfl rfl rfl <| .stA rfl rfl rfl rfl rfl rfl <| .nil <| .ret rfl hQ .r LeBs.refl
      · obtain ⟨x, lo', hi', hx, hx1, hx2, hx3, hx4, hx5⟩ := kid_at k hd (by simpa using h1)
        rw [leafF, if_neg (by simp [h1]), hx1] at hQ
        rw [← hx4] at hx
        refine .notF rfl rfl <| .nil <| .condT rfl <| .skip <| .block <| .regD <| .fa rfl rfl <| .ldE rfl rfl rfl rfl <| .fa rfl rfl <| .ldE rfl rfl rfl rfl <| .mv rfl rfl <| .c rfl rfl rfl (i_kidOf t.cs k hz2) .refl rfl rfl rfl (by decide) <| .ia rfl rfl rfl hx <| .aF rfl rfl rfl <| .stA rfl rfl rfl rfl rfl rfl <| .nil (by kernel_rfl) <| .inBlock <| hT0 <| ?_
        exact RA.wq [_, _] (ih x lo' hi' _ hx2 (by omega) hQ) nT0
  exact RA.wq [_, _] (L0 n t lo hi _ hd h hQ) nT0
theorem i_pendS (n : Nat) (HP : ∀ (t : Tr) (k lo hi : Int), 0 < depth n t lo hi → t.sz ≤ 1000000 → RF Y 78 [.agg t.e, i64 k] (.own true 3 0 ((pend n t k).map Ms.c)) []) (t : Tr) (k lo hi : Int) (hd : 0 < depth (n + 1) t lo hi) (h : t.sz ≤ 1000000) : RF Y 78 [.agg t.e, i64 k] (.own true 3 0 ((pend (n + 1) t k).map Ms.c)) [] := by
  refine RF.s2 rfl rfl rfl fun Q hQ => ?_
  obtain ⟨hz1, hz2, hz3, hz4⟩ := Tr.lens h
  refine .seq <| .reg <| .box rfl rfl rfl <| .mv rfl rfl <| .nil <| .seq <| .reg <| .row0 rfl rfl rfl <| .mv rfl rfl <| .nil <| .seq <| .seq <| .reg <| .fa rfl rfl <| .ldE rfl rfl rfl rfl <| .bB (fun h1 => ?_) (fun h1 => ?_)
  · rw [pend, if_pos h1] at hQ
    refine .nil <| .condT rfl <| .seq <| .reg <| .mv rfl rfl <| .mv rfl rfl <| .nil <| .ret rfl hQ (by first | exact .nilO | exact .rw (fun _ => rfl) | exact .ox rfl (fun _ => rfl)) LeBs.refl
  · obtain ⟨x, lo', hi', hx, hx1, hx2, hx3, hx4, hx5⟩ := kid_at k hd (by simpa using h1)
    rw [pend, if_neg (by simp [h1]), hx1] at hQ
    have hpl := pend_len n x k (.inr ⟨lo', hi', hx2⟩)
    rw [← hx4] at hx
    refine .nil <| .condF rfl <| .skip <| .seq <| .regD <| .fa rfl rfl <| .ldE rfl rfl rfl rfl <| .fa rfl rfl <| .ldE rfl rfl rfl rfl <| .mv rfl rfl <| .c rfl rfl rfl (i_kidOf t.cs k hz2) .refl rfl rfl rfl (by decide) <| .ia rfl rfl rfl hx <| .aF rfl rfl rfl <| .mv rfl rfl <| .c rfl rfl rfl (HP x k lo' hi' hx2 (by omega)) .refl rfl rfl rfl (by decide) <| .mv rfl rfl <| .nil (by kernel_rfl) <| .seq <| .seq <| .reg <| .fa rfl rfl <| .ldE rfl rfl rfl rfl <| .len rfl rfl rfl <| .mv rfl rfl <| .nil <| .block <| ?_
    refine RA.loopI fun T0 hT0 nT0 eT0 => ?_
    have L0 : ∀ (post pre : List Ms) (out : List Ms) (Q : Qst), t.bs = pre ++ post → out.length ≤ 1000000 + pre.length → Q (.own true 3 0 ((out ++ post.filter fun m => decide (m.k = k)).map Ms.c)) [] → RA Y a78 T0 [(1, i64 k), (5, .row 0), (23, .fro true 3 (t.bs.map Ms.c)), (24, i64 t.bs.length), (25, i64 pre.length)] [(0, .row true 3 0 (out.map Ms.c))] 1 Q := by
      intro post
      induction post with
      | nil =>
        intro pre out Q hc ho hQ
        have hl : t.bs.length = pre.length := by simp [hc]
        rw [List.filter_nil, List.append_nil] at hQ
        rw [eT0]
        refine .seq <| .reg <| .lssF rfl rfl rfl (by omega) <| .nil <| .seq <| .condF rfl <| .exit rfl <| .seq <| .reg <| .mv rfl rfl <| .mv rfl rfl <| .nil <| .ret rfl hQ (by first | exact .nilO | exact .rw (fun _ => rfl) | exact .ox rfl (fun _ => rfl)) LeBs.refl
      | cons a post ih =>
        intro pre out Q hc ho hQ
        have hl : t.bs.length = pre.length + post.length + 1 := by simp [hc]; omega
        have ha : t.bs[pre.length]? = some a := by simp [hc]
        rw [eT0]
        refine .seq <| .reg <| .lssT rfl rfl rfl (by omega) <| .nil <| .seq <| .condT rfl <| .skip <| .seq <| .block <| .seq <| .reg <| .ia rfl rfl rfl (by assumption) <| .aF rfl rfl rfl <| .new rfl <| .stA rfl rfl rfl rfl rfl rfl <| .nil <| .seq <| .reg <| .fa rfl rfl <| .ldE rfl rfl rfl rfl <| .mv rfl rfl <| .eql rfl rfl rfl (fun h3 => ?_) (fun h3 => ?_)
        · refine .nil <| .condT rfl <| .reg <| .mv rfl rfl <| .aE rfl rfl rfl rfl <| .row1P rfl rfl rfl rfl rfl rfl rfl rfl <| .ap rfl rfl rfl rfl rfl (by simp; omega) (by decide) <| .mv rfl rfl <| .nil <| .inBlock <| .reg <| .add rfl rfl rfl (by omega) <| .mv rfl rfl <| .nil <| hT0 <| ?_
          exact RA.wq [_] (ih (pre ++ [a]) (out ++ [a]) _ (by simp [hc]) (by simp; omega) (by rw [List.filter_cons, if_pos (by simpa using h3)] at hQ; simpa using hQ)) nT0
        · refine .nil <| .condF rfl <| .skip <| .inBlock <| .reg <| .add rfl rfl rfl (by omega) <| .mv rfl rfl <| .nil <| hT0 <| ?_
          exact RA.wq [_] (ih (pre ++ [a]) out _ (by simp [hc]) (by simp; omega) (by rw [List.filter_cons, if_neg (by simpa using h3)] at hQ; exact hQ)) nT0
    exact RA.wq [_] (L0 t.bs [] (pend n x k) _ rfl (by simp; omega) hQ) nT0
theorem i_pend : ∀ (n : Nat) (t : Tr) (k lo hi : Int), 0 < depth n t lo hi → t.sz ≤ 1000000 → RF Y 78 [.agg t.e, i64 k] (.own true 3 0 ((pend n t k).map Ms.c)) []
  | 0, t, k, lo, hi, hd, _ => by simp [depth] at hd
  | n + 1, t, k, lo, hi, hd, h => i_pendS n (i_pend n) t k lo hi hd h
theorem i_treeMapS (t : Tr) (HC : ∀ k, k ∈ t.ks → RF Y 56 [.agg k.e] (.own true 2 0 ((mapT k).map Pr.c)) []) (h : t.sz ≤ 999999) (hl : t.leaf = true → t.ks = [] ∧ t.bs = []) (hn : t.leaf = false → t.ps = []) : RF Y 56 [.agg t.e] (.own true 2 0 ((mapT t).map Pr.c)) [] := by
  refine RF.s1 rfl rfl rfl fun Q hQ => ?_
  obtain ⟨hz1, hz2, hz3, hz4⟩ := Tr.lens h
  have hz := Tr.sz_eq t
  have hzl := mapTL_len t.ks
  refine .seq <| .reg <| .box rfl rfl rfl <| .mv rfl rfl <| .nil <| .seq <| .seq <| .reg <| .fa rfl rfl <| .ldE rfl rfl rfl rfl <| .bB (fun h1 => ?_) (fun h1 => ?_)
  · rw [show mapT t = t.ps by rw [mapT_eq, (hl h1).1, (hl h1).2, mapTL, List.append_nil]; rfl] at hQ
    refine .nil <| .condT rfl <| .seq <| .reg <| .row0 rfl rfl rfl <| .fa rfl rfl <| .ldE rfl rfl rfl rfl <| .ap rfl rfl rfl rfl rfl (by simp; omega) (by decide) <| .mv rfl rfl <| .nil <| .ret rfl hQ (.rw (by first | exact fun _ => rfl | exact fun h => by cases h)) LeBs.refl
  · rw [show mapT t = mapAll ([] ++ mapTL t.ks) t.bs by rw [mapT_eq, hn h1]] at hQ
    refine .nil <| .condF rfl <| .skip <| .seq <| .reg <| .row0 rfl rfl rfl <| .mv rfl rfl <| .nil <| .seq <| .seq <| .reg <| .fa rfl rfl <| .ldE rfl rfl rfl rfl <| .len rfl rfl rfl <| .mv rfl rfl <| .nil <| .block <| ?_
    refine RA.loopI fun T0 hT0 nT0 eT0 => ?_
    have L0 : ∀ (post pre : List Tr) (out : List Pr) (Q : Qst), t.ks = pre ++ post → out.length + Tr.szL post + t.bs.length ≤ 999999 → Q (.own true 2 0 ((mapAll (out ++ mapTL post) t.bs).map Pr.c)) [] → RA Y a56 T0 [(1, .elt 0 0 0), (3, .row 1), (14, .fro false 5 (t.ks.map Tr.c)), (15, i64 t.ks.length), (16, i64 pre.length)] [(0, .box t.e), (1, .row true 2 0 (out.map Pr.c))] 2 Q := by
      intro post
      induction post with
      | nil =>
        intro pre out Q hc ho hQ
        have hl : t.ks.length = pre.length := by simp [hc]
        rw [mapTL, List.append_nil] at hQ
        rw [eT0]
        refine .seq <| .reg <| .lssF rfl rfl rfl (by omega) <| .nil <| .seq <| .condF rfl <| .exit rfl <| .seq <| .reg <| .mv rfl rfl <| .fa rfl rfl <| .ldE rfl rfl rfl rfl <| .c rfl rfl rfl (i_MapAll out t.bs (by omega)) .refl rfl rfl rfl (by decide) <| .mv rfl rfl <| .nil <| .ret rfl hQ (.rw (by first | exact fun _ => rfl | exact fun h => by cases h)) LeBs.refl
      | cons a post ih =>
        intro pre out Q hc ho hQ
        have hl : t.ks.length = pre.length + post.length + 1 := by simp [hc]; omega
        have ha : t.ks[pre.length]? = some a := by simp [hc]
        have hal := mapT_len a
        simp only [Tr.szL] at ho
        rw [eT0]
        refine .seq <| .reg <| .lssT rfl rfl rfl (by omega) <| .nil <| .seq <| .condT rfl <| .skip <| .seq <| .block <| .seq <| .reg <| .ia rfl rfl rfl (by assumption) <| .aF rfl rfl rfl <| .new rfl <| .stA rfl rfl rfl rfl rfl rfl <| .nil <| .reg <| .mv rfl rfl <| .aE rfl rfl rfl rfl <| .c rfl rfl rfl (HC a (by simp [hc])) .refl rfl rfl rfl (by decide) <| .ap rfl rfl rfl rfl rfl (by simp; omega) (by decide) <| .mv rfl rfl <| .nil <| .inBlock <| .reg <| .add rfl rfl rfl (by omega) <| .mv rfl rfl <| .nil <| hT0 <| ?_
        exact RA.wq [_, _] (ih (pre ++ [a]) (out ++ mapT a) _ (by simp [hc]) (by have := mapT_len a; simp only [Tr.szL, List.length_append] at *; omega) (by rw [mapTL, ← List.append_assoc] at hQ; exact hQ)) nT0
    exact RA.wq [_, _] (L0 t.ks [] [] _ rfl (by simp only [List.length_nil]; omega) hQ) nT0
theorem s_l3MapS (t : Tr) (HC : ∀ k, k ∈ t.ks → RF Y 132 [.agg k.e] (.own true 2 0 ((mapT k).map Pr.c)) []) (h : t.sz ≤ 999999) : RF Y 132 [.agg t.e] (.own true 2 0 ((mapT t).map Pr.c)) [] := by
  refine RF.s1 rfl rfl rfl fun Q hQ => ?_
  obtain ⟨hz1, hz2, hz3, hz4⟩ := Tr.lens h
  have hz := Tr.sz_eq t
  have hzl := mapTL_len t.ks
  rw [mapT_eq] at hQ
  refine .seq <| .reg <| .box rfl rfl rfl <| .mv rfl rfl <| .nil <| .seq <| .reg <| .row0 rfl rfl rfl <| .fa rfl rfl <| .ldE rfl rfl rfl rfl <| .ap rfl rfl rfl rfl rfl (by simp; omega) (by decide) <| .mv rfl rfl <| .nil <| .seq <| .seq <| .reg <| .mv rfl rfl <| .nil <| .block <| ?_
  refine RA.loopI fun T0 hT0 nT0 eT0 => ?_
  have L0 : ∀ (post pre : List Tr) (out : List Pr) (Q : Qst), t.ks = pre ++ post → out.length + Tr.szL post + t.bs.length ≤ 999999 → Q (.own true 2 0 ((mapAll (out ++ mapTL post) t.bs).map Pr.c)) [] → RA Y a132 T0 [(1, .elt 0 0 0), (3, .row 1), (4, i64 pre.length)] [(0, .box t.e), (1, .row true 2 0 (out.map Pr.c))] 2 Q := by
    intro post
    induction post with
    | nil =>
      intro pre out Q hc ho hQ
      have hl : t.ks.length = pre.length := by simp [hc]
      rw [mapTL, List.append_nil] at hQ
      rw [eT0]
      refine .seq <| .seq <| .reg <| .mv rfl rfl <| .fa rfl rfl <| .ldE rfl rfl rfl rfl <| .len rfl rfl rfl <| .lssF rfl rfl rfl (by omega) <| .nil <| .condF rfl <| .exit rfl <| .seq <| .reg <| .mv rfl rfl <| .fa rfl rfl <| .ldE rfl rfl rfl rfl <| .c rfl rfl rfl (s_MapAll out t.bs (by omega)) .refl rfl rfl rfl (by decide) <| .mv rfl rfl <| .nil <| .ret rfl hQ (.rw (by first | exact fun _ => rfl | exact fun h => by cases h)) LeBs.refl
    | cons a post ih =>
      intro pre out Q hc ho hQ
      have hl : t.ks.length = pre.length + post.length + 1 := by simp [hc]; omega
      have ha : t.ks[pre.length]? = some a := by simp [hc]
      have hal := mapT_len a
      simp only [Tr.szL] at ho
      rw [eT0]
      refine .seq <| .seq <| .reg <| .mv rfl rfl <| .fa rfl rfl <| .ldE rfl rfl rfl rfl <| .len rfl rfl rfl <| .lssT rfl rfl rfl (by omega) <| .nil <| .condT rfl <| .skip <| .seq <| .block <| .reg <| .mv rfl rfl <| .fa rfl rfl <| .ldE rfl rfl rfl rfl <| .mv rfl rfl <| .ia rfl rfl rfl (by assumption) <| .aF rfl rfl rfl <| .c rfl rfl rfl (HC a (by simp [hc])) .refl rfl rfl rfl (by decide) <| .ap rfl rfl rfl rfl rfl (by simp; omega) (by decide) <| .mv rfl rfl <| .nil <| .inBlock <| .reg <| .mv rfl rfl <| .add rfl rfl rfl (by omega) <| .mv rfl rfl <| .nil <| hT0 <| ?_
      exact RA.wq [_, _] (ih (pre ++ [a]) (out ++ mapT a) _ (by simp [hc]) (by have := mapT_len a; simp only [Tr.szL, List.length_append] at *; omega) (by rw [mapTL, ← List.append_assoc] at hQ; exact hQ)) nT0
  exact RA.wq [_, _] (L0 t.ks [] t.ps _ rfl (by omega) hQ) nT0
theorem i_treeMap : ∀ (n : Nat) (t : Tr) (lo hi : Int), 0 < depth n t lo hi → t.sz ≤ 999999 → RF Y 56 [.agg t.e] (.own true 2 0 ((mapT t).map Pr.c)) []
  | 0, t, lo, hi, hd, _ => by simp [depth] at hd
  | n + 1, t, lo, hi, hd, h => by
    rcases depth_node hd with ⟨h1, h2, h3, h4, h5, h6⟩ | ⟨h1, h2, h3, h4, h5, h6, h7, h8, _⟩
    · exact i_treeMapS t (fun k hk => by simp [h5] at hk) h (fun _ => ⟨h5, h6⟩) (fun q => by rw [h1] at q; cases q)
    · refine i_treeMapS t (fun k hk => ?_) h (fun q => by rw [h1] at q; cases q) (fun _ => h2)
      obtain ⟨lo', hi', hd'⟩ := kids_right h8 k hk
      exact i_treeMap n k lo' hi' hd' (by have := Tr.kid_sz hk; omega)
theorem s_l3Map (t : Tr) (h : t.sz ≤ 999999) : RF Y 132 [.agg t.e] (.own true 2 0 ((mapT t).map Pr.c)) [] := by
  have : ∀ (n : Nat) (t : Tr), t.sz ≤ n → t.sz ≤ 999999 → RF Y 132 [.agg t.e] (.own true 2 0 ((mapT t).map Pr.c)) [] := by
    intro n
    induction n with
    | zero => intro t h0; have := t.sz_pos; omega
    | succ n ih => intro t h0 h1; exact s_l3MapS t (fun k hk => by have := Tr.kid_sz hk; exact ih k (by omega) (by omega)) h1
  exact this _ t (Nat.le_refl _) h
theorem i_TreeMap (t : Tr) (h : t.sz ≤ 999999) : RF Y 15 [.agg t.e] (.own true 2 0 ((tmap t).map Pr.c)) [] := by
  refine RF.s1 rfl rfl rfl fun Q hQ => ?_
  refine .seq <| .reg <| .box rfl rfl rfl <| .mv rfl rfl <| .nil <| .seq <| .seq <| .reg <| .aE rfl rfl rfl rfl <| .c rfl rfl rfl (i_TreeOk t (by omega)) .refl rfl rfl rfl (by decide) <| .bB (fun h1 => ?_) (fun h1 => ?_)
  · have hd : 0 < depth 7 t 0 1000 := of_decide_eq_true h1
    rw [tmap, if_pos h1] at hQ
    refine .notT rfl rfl <| .nil <| .condF rfl <| .skip <| .seq <| .reg <| .aE rfl rfl rfl rfl <| .c rfl rfl rfl (i_treeMap 7 t 0 1000 hd h) .refl rfl rfl rfl (by decide) <| .mv rfl rfl <| .nil <| .ret rfl hQ (by first | exact .nilO | exact .rw (fun _ => rfl) | exact .ox rfl (fun _ => rfl)) LeBs.refl
  · rw [tmap, if_neg (by simp [h1])] at hQ
    refine .notF rfl rfl <| .nil <| .condT rfl <| .seq <| .reg <| .mv rfl rfl <| .nil <| .ret rfl hQ (by first | exact .nilO | exact .rw (fun _ => rfl) | exact .ox rfl (fun _ => rfl)) LeBs.refl
theorem s_TreeMap (t : Tr) (h : t.sz ≤ 999999) : RF Y 75 [.agg t.e] (.own true 2 0 ((tmap t).map Pr.c)) [] := by
  refine RF.s1 rfl rfl rfl fun Q hQ => ?_
  refine .seq <| .reg <| .box rfl rfl rfl <| .mv rfl rfl <| .nil <| .seq <| .seq <| .reg <| .aE rfl rfl rfl rfl <| .c rfl rfl rfl (s_TreeOk t (by omega)) .refl rfl rfl rfl (by decide) <| .bB (fun h1 => ?_) (fun h1 => ?_)
  · have hd : 0 < depth 7 t 0 1000 := of_decide_eq_true h1
    rw [tmap, if_pos h1] at hQ
    refine .notT rfl rfl <| .nil <| .condF rfl <| .skip <| .seq <| .reg <| .aE rfl rfl rfl rfl <| .c rfl rfl rfl (s_l3Map t h) .refl rfl rfl rfl (by decide) <| .mv rfl rfl <| .nil <| .ret rfl hQ (by first | exact .nilO | exact .rw (fun _ => rfl) | exact .ox rfl (fun _ => rfl)) LeBs.refl
  · rw [tmap, if_neg (by simp [h1])] at hQ
    refine .notF rfl rfl <| .nil <| .condT rfl <| .seq <| .reg <| .row0 rfl rfl rfl <| .mv rfl rfl <| .nil <| .ret rfl hQ (by first | exact .nilO | exact .rw (fun _ => rfl) | exact .ox rfl (fun _ => rfl)) LeBs.refl
theorem leafF_sz : ∀ (n : Nat) (t : Tr) (k lo hi : Int), 0 < depth n t lo hi → (leafF n t k).sz ≤ t.sz
  | 0, t, k, lo, hi, h => by simp [depth] at h
  | n + 1, t, k, lo, hi, h => by
    by_cases hl : t.leaf = true
    · rw [leafF, if_pos hl]; exact Nat.le_refl _
    · obtain ⟨x, lo', hi', h1, h2, h3, h4, _⟩ := kid_at k h (by simpa using hl)
      rw [leafF, if_neg hl, h2]
      exact Nat.le_trans (leafF_sz n x k lo' hi' h3) (Nat.le_of_lt h4)
theorem i_TreeGet (t : Tr) (k : Int) (h : t.sz ≤ 100000) : RF Y 28 [.agg t.e, i64 k] (.tup [i64 (tget t k).1, .b (tget t k).2]) [] := by
  refine RF.s2 rfl rfl rfl fun Q hQ => ?_
  refine .seq <| .reg <| .box rfl rfl rfl <| .mv rfl rfl <| .mv rfl rfl <| .nil <| .seq <| .seq <| .reg <| .aE rfl rfl rfl rfl <| .c rfl rfl rfl (i_TreeOk t (by omega)) .refl rfl rfl rfl (by decide) <| .bB (fun h1 => ?_) (fun h1 => ?_)
  · have hd : 0 < depth 7 t 0 1000 := of_decide_eq_true h1
    have hl := leafF_ok 7 t k 0 1000 hd
    obtain ⟨l1, l2, hl⟩ := hl
    have hls := leafF_sz 7 t k 0 1000 hd
    have hll := Tr.lens (Nat.le_trans hls h)
    have hpl := pend_len 7 t k (.inr ⟨0, 1000, hd⟩)
    refine .notT rfl rfl <| .nil <| .condF rfl <| .skip <| .seq <| .reg <| .row0 rfl rfl rfl <| .mv rfl rfl <| .nil <| .seq <| .seq <| .reg <| .aE rfl rfl rfl rfl <| .mv rfl rfl <| .cz rfl rfl rfl (i_leafOf 7 t k 0 1000 hd (by omega)) .refl rfl rfl rfl (by decide) <| .p rfl rfl <| .mv rfl rfl <| .c rfl rfl rfl (i_MapGet (leafF 7 t k).ps k (by omega)) .refl rfl rfl rfl (by decide) <| .mv rfl rfl <| .ex rfl rfl rfl <| .ex rfl rfl rfl <| .bB (fun h2 => ?_) (fun h2 => ?_)
    · rw [show tget t k = mapGet k (mapAll [⟨k, (mapGet k (leafF 7 t k).ps).1⟩] (pend 7 t k)) by rw [tget, if_pos h1, one, if_pos h2]] at hQ
      have hma := mapAll_len (pend 7 t k) [⟨k, (mapGet k (leafF 7 t k).ps).1⟩]
      rw [List.length_singleton] at hma
      refine .mv rfl rfl <| .mv rfl rfl <| .nil <| .seq <| .reg <| .mv rfl rfl <| .nil <| .condT rfl <| .reg <| .mv rfl rfl <| .mv rfl rfl <| .mv rfl rfl <| .build (cs := [_, _]) rfl rfl rfl <| .row1P rfl rfl rfl rfl rfl rfl rfl rfl <| .ap rfl rfl rfl rfl rfl (by simp) (by decide) <| .mv rfl rfl <| .nil <| .seq <| .reg <| .mv rfl rfl <| .aE rfl rfl rfl rfl <| .mv rfl rfl <| .c rfl rfl rfl (i_pend 7 t k 0 1000 hd (by omega)) .refl rfl rfl rfl (by decide) <| .c rfl rfl rfl (i_MapAll [⟨k, (mapGet k (leafF 7 t k).ps).1⟩] (pend 7 t k) (by simp only [List.length_singleton]; omega)) .refl rfl rfl rfl (by decide) <| .mv rfl rfl <| .c rfl rfl rfl (i_MapGet (mapAll [⟨k, (mapGet k (leafF 7 t k).ps).1⟩] (pend 7 t k)) k (by omega)) .refl rfl rfl rfl (by decide) <| .ex rfl rfl rfl <| .ex rfl rfl rfl <| .mv rfl rfl <| .mv rfl rfl <| .nil <| .ret rfl hQ .r LeBs.refl
    · rw [show tget t k = mapGet k (mapAll [] (pend 7 t k)) by rw [tget, if_pos h1, one, if_neg (by simp [h2])]] at hQ
      have hma := mapAll_len (pend 7 t k) []
      rw [List.length_nil] at hma
      refine .mv rfl rfl <| .mv rfl rfl <| .nil <| .seq <| .reg <| .mv rfl rfl <| .nil <| .condF rfl <| .skip <| .seq <| .reg <| .mv rfl rfl <| .aE rfl rfl rfl rfl <| .mv rfl rfl <| .c rfl rfl rfl (i_pend 7 t k 0 1000 hd (by omega)) .refl rfl rfl rfl (by decide) <| .c rfl rfl rfl (i_MapAll [] (pend 7 t k) (by simp only [List.length_nil]; omega)) .refl rfl rfl rfl (by decide) <| .mv rfl rfl <| .c rfl rfl rfl (i_MapGet (mapAll [] (pend 7 t k)) k (by omega)) .refl rfl rfl rfl (by decide) <| .ex rfl rfl rfl <| .ex rfl rfl rfl <| .mv rfl rfl <| .mv rfl rfl <| .nil <| .ret rfl hQ .r LeBs.refl
  · rw [show tget t k = (0, false) by rw [tget, if_neg (by simp [h1])]] at hQ
    refine .notF rfl rfl <| .nil <| .condT rfl <| .seq <| .reg <| .mv rfl rfl <| .mv rfl rfl <| .nil <| .ret rfl hQ .r LeBs.refl
theorem i_TreeRange (t : Tr) (lo hi : Int) (h : t.sz ≤ 999999) : RF Y 30 [.agg t.e, i64 lo, i64 hi] (.own true 2 0 ((inR lo hi (tmap t)).map Pr.c)) [] := by
  refine RF.s3 rfl rfl rfl fun Q hQ => ?_
  have htl := tmap_len t
  refine .seq <| .reg <| .box rfl rfl rfl <| .mv rfl rfl <| .nil <| .seq <| .reg <| .row0 rfl rfl rfl <| .mv rfl rfl <| .nil <| .seq <| .seq <| .reg <| .aE rfl rfl rfl rfl <| .c rfl rfl rfl (i_TreeMap t h) .refl rfl rfl rfl (by decide) <| .len rfl rfl rfl <| .mv rfl rfl <| .nil <| .block <| ?_
  refine RA.loopI fun T0 hT0 nT0 eT0 => ?_
  have L0 : ∀ (post pre : List Pr) (out : List Pr) (Q : Qst), (tmap t) = pre ++ post → out.length ≤ pre.length → Q (.own true 2 0 ((out ++ inR lo hi post).map Pr.c)) [] → RA Y a30 T0 [(1, i64 lo), (2, i64 hi), (7, .row 0), (12, .row 1), (13, i64 (tmap t).length), (14, i64 pre.length)] [(0, .row true 2 0 (out.map Pr.c)), (1, .row true 2 0 ((tmap t).map Pr.c))] 2 Q := by
    intro post
    induction post with
    | nil =>
      intro pre out Q hc ho hQ
      have hl : (tmap t).length = pre.length := by simp [hc]
      rw [show inR lo hi [] = [] from rfl, List.append_nil] at hQ
      rw [eT0]
      refine .seq <| .reg <| .lssF rfl rfl rfl (by omega) <| .nil <| .seq <| .condF rfl <| .exit rfl <| .seq <| .reg <| .mv rfl rfl <| .mv rfl rfl <| .nil <| .ret rfl hQ (.rw (by first | exact fun _ => rfl | exact fun h => by cases h)) LeBs.refl
    | cons a post ih =>
      intro pre out Q hc ho hQ
      have hl : (tmap t).length = pre.length + post.length + 1 := by simp [hc]; omega
      have ha : (tmap t)[pre.length]? = some a := by simp [hc]
      have hac : ((tmap t).map Pr.c)[pre.length]? = some (Pr.c a) := by rw [List.getElem?_map, ha]; rfl
      rw [eT0]
      refine .seq <| .reg <| .lssT rfl rfl rfl (by omega) <| .nil <| .seq <| .condT rfl <| .skip <| .seq <| .block <| .seq <| .reg <| .iaR rfl rfl rfl rfl (by first | assumption | (simp; omega)) <| .aR rfl rfl rfl (by assumption) rfl <| .new rfl <| .stA rfl rfl rfl rfl rfl rfl <| .nil <| .seq <| .reg <| .fa rfl rfl <| .ldE rfl rfl rfl rfl <| .mv rfl rfl <| .geq rfl rfl rfl (fun h2 => ?_) (fun h2 => ?_)
      · refine .mv rfl rfl <| .g rfl rfl <| .fa rfl rfl <| .g rfl rfl <| .ldE rfl rfl rfl rfl <| .g rfl rfl <| .mv rfl rfl <| .g rfl rfl <| .lss rfl rfl rfl (fun h3 => ?_) (fun h3 => ?_)
        · refine .pickT rfl rfl rfl <| .nil <| .condT rfl <| .reg <| .mv rfl rfl <| .aE rfl rfl rfl rfl <| .row1P rfl rfl rfl rfl rfl rfl rfl rfl <| .ap rfl rfl rfl rfl rfl (by simp; omega) (by decide) <| .mv rfl rfl <| .nil <| .inBlock <| .reg <| .add rfl rfl rfl (by omega) <| .mv rfl rfl <| .nil <| hT0 <| ?_
          exact RA.wq [_, _] (ih (pre ++ [a]) (out ++ [a]) _ (by simp [hc]) (by simp; omega) (by rw [inR, List.filter_cons, if_pos (by simp; omega)] at hQ; simpa [inR] using hQ)) nT0
        · refine .pickT rfl rfl rfl <| .nil <| .condF rfl <| .skip <| .inBlock <| .reg <| .add rfl rfl rfl (by omega) <| .mv rfl rfl <| .nil <| hT0 <| ?_
          exact RA.wq [_, _] (ih (pre ++ [a]) out _ (by simp [hc]) (by simp; omega) (by rw [inR, List.filter_cons, if_neg (by simp; omega)] at hQ; exact hQ)) nT0
      · refine .mv rfl rfl <| .gs rfl rfl rfl <| .gs rfl rfl rfl <| .gs rfl rfl rfl <| .gs rfl rfl rfl <| .pickF rfl rfl rfl <| .nil <| .condF rfl <| .skip <| .inBlock <| .reg <| .add rfl rfl rfl (by omega) <| .mv rfl rfl <| .nil <| hT0 <| ?_
        exact RA.wq [_, _] (ih (pre ++ [a]) out _ (by simp [hc]) (by simp; omega) (by rw [inR, List.filter_cons, if_neg (by simp; omega)] at hQ; exact hQ)) nT0
  exact RA.wq [_, _] (L0 (tmap t) [] [] _ rfl (by simp) hQ) nT0
end Go.Proofs.YtjjocahgbmibeaaGreat

namespace Go.Proofs.YtjjocahgbmibeaaGreat
open Go.Eng
set_option maxRecDepth 4000
set_option linter.unusedSimpArgs false
set_option linter.unusedVariables false
theorem eqa_Pr (n : Nat) (m : Mem) (a : Pr) : act n m (.eqa true [(0, false), (1, false)] (.agg (Pr.c a)) (.agg (Pr.c a))) = some (.b false, []) := by
  simp [act, eqCells, eqCell, Pr.c]
theorem l_samePairs (l : List Pr) (h : l.length ≤ 1000000) : RF Y 14 [.fro true 2 (l.map Pr.c), .fro true 2 (l.map Pr.c)] (.b true) [] := by
  refine RF.s2 rfl rfl rfl fun Q hQ => ?_
  refine .seq <| .reg <| .mv rfl rfl <| .nil <| .seq <| .seq <| .reg <| .mv rfl rfl <| .len rfl rfl rfl <| .mv rfl rfl <| .len rfl rfl rfl <| .neq rfl rfl rfl (fun h1 => ?_) (fun h1 => ?_)
  · exact absurd rfl h1
  · refine .nil <| .condF rfl <| .skip <| .seq <| .seq <| .reg <| .mv rfl rfl <| .nil <| .block <| ?_
    refine RA.loopI fun T0 hT0 nT0 eT0 => ?_
    have L0 : ∀ (post pre : List Pr)  (Q : Qst), l = pre ++ post → Q (.b true) [] → RA Y a14 T0 [(0, .fro true 2 (l.map Pr.c)), (1, .fro true 2 (l.map Pr.c)), (5, i64 pre.length)] [] 0 Q := by
      intro post
      induction post with
      | nil =>
        intro pre  Q hc  hQ
        have hl : l.length = pre.length := by simp [hc]
        rw [eT0]
        refine .seq <| .seq <| .reg <| .mv rfl rfl <| .mv rfl rfl <| .len rfl rfl rfl <| .lssF rfl rfl rfl (by omega) <| .nil <| .condF rfl <| .exit rfl <| .seq <| .reg <| .mv rfl rfl <| .nil <| .ret rfl hQ .r LeBs.refl
      | cons a post ih =>
        intro pre  Q hc  hQ
        have hl : l.length = pre.length + post.length + 1 := by simp [hc]; omega
        have ha : l[pre.length]? = some a := by simp [hc]
        rw [eT0]
        refine .seq <| .seq <| .reg <| .mv rfl rfl <| .mv rfl rfl <| .len rfl rfl rfl <| .lssT rfl rfl rfl (by omega) <| .nil <| .condT rfl <| .skip <| .seq <| .block <| .seq <| .regD <| .mv rfl rfl <| .mv rfl rfl <| .ia rfl rfl rfl (by assumption) <| .aF rfl rfl rfl <| .mv rfl rfl <| .mv rfl rfl <| .ia rfl rfl rfl (by assumption) <| .aF rfl rfl rfl <| .p rfl (eqa_Pr _ _ _) <| .bB (fun h3 => ?_) (fun h3 => ?_)
        · cases h3
        · refine .nil (by kernel_rfl) <| .condF rfl <| .skip <| .inBlock <| .reg <| .mv rfl rfl <| .add rfl rfl rfl (by omega) <| .mv rfl rfl <| .nil <| hT0 <| ?_
          exact RA.wq [] (ih (pre ++ [a])  _ (by simp [hc])  hQ) nT0
    exact RA.wq [] (L0 l []  _ rfl  hQ) nT0
def atI (code : List UInt8) (i : Nat) : Int := match code[i]? with
  | some u => (u.toNat : Int)
  | none => ((i : Int) * 7 + code.length).tmod 256
end Go.Proofs.YtjjocahgbmibeaaGreat
