/- The laws FnGot and FnRanged: their walks. -/
import Derived.Test.YtjjocahgbmibeaaW11
namespace Go.Proofs.Ytjjocahgbmibeaa
open Go.Eng
set_option maxRecDepth 4000
set_option linter.unusedSimpArgs false
set_option linter.unusedVariables false
theorem eqa_Ms (n : Nat) (m : Mem) (a : Ms) : act n m (.eqa true [(0, false), (1, false), (2, false)] (.agg (Ms.c a)) (.agg (Ms.c a))) = some (.b false, []) := by
  simp [act, eqCells, eqCell, Ms.c]
theorem eqa_Pr (n : Nat) (m : Mem) (a : Pr) : act n m (.eqa true [(0, false), (1, false)] (.agg (Pr.c a)) (.agg (Pr.c a))) = some (.b false, []) := by
  simp [act, eqCells, eqCell, Pr.c]
theorem l_sameMsgs (l : List Ms) (h : l.length ≤ 1000000) : RF Y 23 [.fro true 3 (l.map Ms.c), .fro true 3 (l.map Ms.c)] (.b true) [] := by
  refine RF.s2 rfl rfl rfl fun Q hQ => ?_
  refine .seq <| .reg <| .mv rfl rfl <| .nil <| .seq <| .seq <| .reg <| .mv rfl rfl <| .len rfl rfl rfl <| .mv rfl rfl <| .len rfl rfl rfl <| .neq rfl rfl rfl (fun h1 => ?_) (fun h1 => ?_)
  · exact absurd rfl h1
  · refine .nil <| .condF rfl <| .skip <| .seq <| .seq <| .reg <| .mv rfl rfl <| .nil <| .block <| ?_
    refine RA.loopI fun T0 hT0 nT0 eT0 => ?_
    have L0 : ∀ (post pre : List Ms)  (Q : Qst), l = pre ++ post → Q (.b true) [] → RA Y a23 T0 [(0, .fro true 3 (l.map Ms.c)), (1, .fro true 3 (l.map Ms.c)), (5, i64 pre.length)] [] 0 Q := by
      intro post
      induction post with
      | nil =>
        intro pre  Q hc  hQ
        have hl : l.length = pre.length := by simp [hc]
        rw [eT0]
        refine .seq <| .seq <| .reg <| .mv rfl rfl <| .mv rfl rfl <| .len rfl rfl rfl <| .lssF rfl rfl rfl (by omega) <| .nil <| .condF rfl <| .exit rfl <| .seq <| .reg <| .mv rfl rfl <| .nil <| .ret rfl hQ .r LeBs.refl
      | cons a post ih =>
        intro pre  Q hc  hQ
        have hl : l.length = pre.length + post.length + 1 := by simp [hc]; omega
        have ha : l[pre.length]? = some a := by simp [hc]
        rw [eT0]
        refine .seq <| .seq <| .reg <| .mv rfl rfl <| .mv rfl rfl <| .len rfl rfl rfl <| .lssT rfl rfl rfl (by omega) <| .nil <| .condT rfl <| .skip <| .seq <| .block <| .seq <| .regD <| .mv rfl rfl <| .mv rfl rfl <| .ia rfl rfl rfl (by assumption) <| .aF rfl rfl rfl <| .mv rfl rfl <| .mv rfl rfl <| .ia rfl rfl rfl (by assumption) <| .aF rfl rfl rfl <| .p rfl (eqa_Ms _ _ _) <| .bB (fun h3 => ?_) (fun h3 => ?_)
        · cases h3
        · refine .nil (by kernel_rfl) <| .condF rfl <| .skip <| .inBlock <| .reg <| .mv rfl rfl <| .add rfl rfl rfl (by omega) <| .mv rfl rfl <| .nil <| hT0 <| ?_
          exact RA.wk [] (ih (pre ++ [a])  _ (by simp [hc])  hQ) nT0 (by repeat (first | exact .nil | refine .k rfl rfl ?_ | refine .r rfl rfl ?_ | refine .l rfl rfl rfl ?_ | refine .i rfl (by simp) ?_ | refine .f rfl (.rw id) rfl ?_ | refine .f rfl .emp rfl ?_ | refine .cl rfl ?_ | refine .c rfl (.clo rfl (pairC (.v .refl rfl) (pair1 (.v .refl rfl)))) ?_ | refine .c rfl (.clo rfl (pair1 (.v .refl rfl))) ?_)) (by repeat (first | exact .nil | refine .r rfl rfl (by first | exact fun _ => rfl | exact fun h => by cases h) ?_ | refine .x rfl rfl rfl (by first | exact fun _ => rfl | exact fun h => by cases h) ?_ | refine .b rfl rfl (by first | exact .same rfl | exact .box1 (.v .refl rfl) | exact .box2 (.v .refl rfl) (.v .refl rfl) | exact .box2 (.row rfl) (.row rfl) | exact .box3 (.v .refl rfl) (.v .refl rfl) (.v .refl rfl)) ?_)) (by decide) (by decide)
    exact RA.wk [] (L0 l []  _ rfl  hQ) nT0 (by repeat (first | exact .nil | refine .k rfl rfl ?_ | refine .r rfl rfl ?_ | refine .l rfl rfl rfl ?_ | refine .i rfl (by simp) ?_ | refine .f rfl (.rw id) rfl ?_ | refine .f rfl .emp rfl ?_ | refine .cl rfl ?_ | refine .c rfl (.clo rfl (pairC (.v .refl rfl) (pair1 (.v .refl rfl)))) ?_ | refine .c rfl (.clo rfl (pair1 (.v .refl rfl))) ?_)) (by repeat (first | exact .nil | refine .r rfl rfl (by first | exact fun _ => rfl | exact fun h => by cases h) ?_ | refine .x rfl rfl rfl (by first | exact fun _ => rfl | exact fun h => by cases h) ?_ | refine .b rfl rfl (by first | exact .same rfl | exact .box1 (.v .refl rfl) | exact .box2 (.v .refl rfl) (.v .refl rfl) | exact .box2 (.row rfl) (.row rfl) | exact .box3 (.v .refl rfl) (.v .refl rfl) (.v .refl rfl)) ?_)) (by decide) (by decide)
theorem l_samePairs (l : List Pr) (h : l.length ≤ 1000000) : RF Y 29 [.fro true 2 (l.map Pr.c), .fro true 2 (l.map Pr.c)] (.b true) [] := by
  refine RF.s2 rfl rfl rfl fun Q hQ => ?_
  refine .seq <| .reg <| .mv rfl rfl <| .nil <| .seq <| .seq <| .reg <| .mv rfl rfl <| .len rfl rfl rfl <| .mv rfl rfl <| .len rfl rfl rfl <| .neq rfl rfl rfl (fun h1 => ?_) (fun h1 => ?_)
  · exact absurd rfl h1
  · refine .nil <| .condF rfl <| .skip <| .seq <| .seq <| .reg <| .mv rfl rfl <| .nil <| .block <| ?_
    refine RA.loopI fun T0 hT0 nT0 eT0 => ?_
    have L0 : ∀ (post pre : List Pr)  (Q : Qst), l = pre ++ post → Q (.b true) [] → RA Y a29 T0 [(0, .fro true 2 (l.map Pr.c)), (1, .fro true 2 (l.map Pr.c)), (5, i64 pre.length)] [] 0 Q := by
      intro post
      induction post with
      | nil =>
        intro pre  Q hc  hQ
        have hl : l.length = pre.length := by simp [hc]
        rw [eT0]
        refine .seq <| .seq <| .reg <| .mv rfl rfl <| .mv rfl rfl <| .len rfl rfl rfl <| .lssF rfl rfl rfl (by omega) <| .nil <| .condF rfl <| .exit rfl <| .seq <| .reg <| .mv rfl rfl <| .nil <| .ret rfl hQ .r LeBs.refl
      | cons a post ih =>
        intro pre  Q hc  hQ
        have hl : l.length = pre.length + post.length + 1 := by simp [hc]; omega
        have ha : l[pre.length]? = some a := by simp [hc]
        rw [eT0]
        refine .seq <| .seq <| .reg <| .mv rfl rfl <| .mv rfl rfl <| .len rfl rfl rfl <| .lssT rfl rfl rfl (by omega) <| .nil <| .condT rfl <| .skip <| .seq <| .block <| .seq <| .regD <| .mv rfl rfl <| .mv rfl rfl <| .ia rfl rfl rfl (by assumption) <| .aF rfl rfl rfl <| .mv rfl rfl <| .mv rfl rfl <| .ia rfl rfl rfl (by assumption) <| .aF rfl rfl rfl <| .p rfl (eqa_Pr _ _ _) <| .bB (fun h3 => ?_) (fun h3 => ?_)
        · cases h3
        · refine .nil (by kernel_rfl) <| .condF rfl <| .skip <| .inBlock <| .reg <| .mv rfl rfl <| .add rfl rfl rfl (by omega) <| .mv rfl rfl <| .nil <| hT0 <| ?_
          exact RA.wk [] (ih (pre ++ [a])  _ (by simp [hc])  hQ) nT0 (by repeat (first | exact .nil | refine .k rfl rfl ?_ | refine .r rfl rfl ?_ | refine .l rfl rfl rfl ?_ | refine .i rfl (by simp) ?_ | refine .f rfl (.rw id) rfl ?_ | refine .f rfl .emp rfl ?_ | refine .cl rfl ?_ | refine .c rfl (.clo rfl (pairC (.v .refl rfl) (pair1 (.v .refl rfl)))) ?_ | refine .c rfl (.clo rfl (pair1 (.v .refl rfl))) ?_)) (by repeat (first | exact .nil | refine .r rfl rfl (by first | exact fun _ => rfl | exact fun h => by cases h) ?_ | refine .x rfl rfl rfl (by first | exact fun _ => rfl | exact fun h => by cases h) ?_ | refine .b rfl rfl (by first | exact .same rfl | exact .box1 (.v .refl rfl) | exact .box2 (.v .refl rfl) (.v .refl rfl) | exact .box2 (.row rfl) (.row rfl) | exact .box3 (.v .refl rfl) (.v .refl rfl) (.v .refl rfl)) ?_)) (by decide) (by decide)
    exact RA.wk [] (L0 l []  _ rfl  hQ) nT0 (by repeat (first | exact .nil | refine .k rfl rfl ?_ | refine .r rfl rfl ?_ | refine .l rfl rfl rfl ?_ | refine .i rfl (by simp) ?_ | refine .f rfl (.rw id) rfl ?_ | refine .f rfl .emp rfl ?_ | refine .cl rfl ?_ | refine .c rfl (.clo rfl (pairC (.v .refl rfl) (pair1 (.v .refl rfl)))) ?_ | refine .c rfl (.clo rfl (pair1 (.v .refl rfl))) ?_)) (by repeat (first | exact .nil | refine .r rfl rfl (by first | exact fun _ => rfl | exact fun h => by cases h) ?_ | refine .x rfl rfl rfl (by first | exact fun _ => rfl | exact fun h => by cases h) ?_ | refine .b rfl rfl (by first | exact .same rfl | exact .box1 (.v .refl rfl) | exact .box2 (.v .refl rfl) (.v .refl rfl) | exact .box2 (.row rfl) (.row rfl) | exact .box3 (.v .refl rfl) (.v .refl rfl) (.v .refl rfl)) ?_)) (by decide) (by decide)
def atI (code : List UInt8) (i : Nat) : Int := match code[i]? with
  | some u => (u.toNat : Int)
  | none => ((i : Int) * 7 + code.length).tmod 256
theorem atI_ok (code : List UInt8) (i : Nat) : 0 ≤ atI code i ∧ atI code i ≤ 255 := by
  unfold atI
  split
  · rename_i u _; have := u.toNat_lt; omega
  · have h1 := Int.tmod_nonneg (a := (i : Int) * 7 + code.length) 256 (by omega)
    have h2 := Int.tmod_lt_of_pos ((i : Int) * 7 + code.length) (b := 256) (by decide)
    omega
theorem l_at (code : List UInt8) (i : Nat) (h : code.length ≤ 1048576) (hi : i ≤ 1000000) : RF Y 32 [.fro true 1 (code.map Bc), i64 i] (i64 (atI code i)) [] := by
  refine RF.s2 rfl rfl rfl fun Q hQ => ?_
  refine .seq <| .reg <| .mv rfl rfl <| .nil <| .seq <| .seq <| .reg <| .mv rfl rfl <| .mv rfl rfl <| .len rfl rfl rfl <| .lss rfl rfl rfl (fun h1 => ?_) (fun h1 => ?_)
  · obtain ⟨u, hu⟩ : ∃ u, code[i]? = some u := ⟨_, getD_at (by omega)⟩
    rw [show atI code i = (u.toNat : Int) by unfold atI; rw [hu]] at hQ
    refine .nil <| .condT rfl <| .seq <| .reg <| .mv rfl rfl <| .mv rfl rfl <| .ia rfl rfl rfl (by assumption) <| .ldF rfl rfl rfl <| .cv8 rfl rfl <| .mv rfl rfl <| .nil <| .ret rfl hQ .r LeBs.refl
  · rw [show atI code i = ((i : Int) * 7 + code.length).tmod 256 by unfold atI; rw [List.getElem?_eq_none (by omega)]] at hQ
    refine .nil <| .condF rfl <| .skip <| .seq <| .reg <| .mv rfl rfl <| .mul rfl rfl rfl (by omega) <| .mv rfl rfl <| .len rfl rfl rfl <| .add rfl rfl rfl (by omega) <| .rem rfl rfl rfl (by first | decide | omega) <| .mv rfl rfl <| .nil <| .ret rfl hQ .r LeBs.refl
theorem s_DrawTreeGet_x (code : List UInt8) (h : code.length ≤ 1048576) : RFx Y 19 [.fro true 1 (code.map Bc)] (fun r o => ∃ t k, r = .tup [Tr.o t, i64 k] ∧ o = [] ∧ t.B ∧ 0 ≤ k ∧ k ≤ 999) := by
  refine RFx.s1 rfl rfl rfl ?_
  refine .seq <| .reg <| .new rfl <| .mv rfl rfl <| .nil <| .seq <| .reg <| .mv rfl rfl <| ?_
  obtain ⟨t, k, ⟨ht, hk1, hk2⟩, R1⟩ := s_DrawKidOf code h
  refine .cz rfl rfl rfl (R1) .refl rfl rfl rfl (by decide) <| .mv rfl rfl <| .ex rfl rfl rfl <| .ex rfl rfl rfl <| .new rfl <| .stA rfl rfl rfl rfl rfl rfl <| .mv rfl rfl <| .nil <| .seq <| .reg <| .aE rfl rfl rfl rfl <| .mv rfl rfl <| .stA rfl rfl rfl rfl rfl rfl <| .mv rfl rfl <| .nil <| .ret rfl ⟨t, k, rfl, rfl, ht, hk1, hk2⟩ (.tup2 (.agg5 .r (.ox rfl (by first | exact fun _ => rfl | exact fun h => by cases h)) (.ox rfl (by first | exact fun _ => rfl | exact fun h => by cases h)) (.ox rfl (by first | exact fun _ => rfl | exact fun h => by cases h)) (.ox rfl (by first | exact fun _ => rfl | exact fun h => by cases h))) .r) LeBs.refl
theorem s_DrawTreeGet (code : List UInt8) (h : code.length ≤ 1048576) : ∃ t k, (t.B ∧ 0 ≤ k ∧ k ≤ 999) ∧ RF Y 19 [.fro true 1 (code.map Bc)] (.tup [Tr.o t, i64 k]) [] := by
  obtain ⟨r, o, ⟨t, k, rfl, rfl, hp⟩, hr⟩ := s_DrawTreeGet_x code h
  exact ⟨t, k, hp, hr⟩
theorem s_DrawTreeRange_x (code : List UInt8) (h : code.length ≤ 1048576) : RFx Y 27 [.fro true 1 (code.map Bc)] (fun r o => ∃ t lo hi, r = .tup [Tr.o t, i64 lo, i64 hi] ∧ o = [] ∧ t.B ∧ -1 ≤ lo ∧ lo ≤ hi ∧ hi ≤ 2000) := by
  refine RFx.s1 rfl rfl rfl ?_
  refine .seq <| .reg <| .new rfl <| .mv rfl rfl <| .mv rfl rfl <| .nil <| .seq <| .reg <| .mv rfl rfl <| ?_
  obtain ⟨c1, ⟨hc1, hb1⟩, R1⟩ := s_l1New code h
  refine .cz rfl rfl rfl (R1) .refl rfl rfl rfl (by decide) <| .mv rfl rfl <| .nil <| .seq <| .reg <| .mv rfl rfl <| .mv rfl rfl <| ?_
  obtain ⟨t, c2, ⟨ht, hc2, hb2⟩, R2⟩ := s_l2Draw c1 hc1 code h
  refine .cPz rfl rfl rfl R2 .refl rfl rfl rfl (by decide) <| .new rfl <| .stA rfl rfl rfl rfl rfl rfl <| .nil <| .seq <| .reg <| .mv rfl rfl <| ?_
  obtain ⟨k, c3, ⟨hk1, hk2, hc3, hb3⟩, R3⟩ := s_l1DrawKey c2 hc2
  refine .cPz rfl rfl rfl R3 .refl rfl rfl rfl (by decide) <| .sub rfl rfl rfl (by omega) <| .mv rfl rfl <| .nil <| .seq <| .regD <| .aE rfl rfl rfl rfl <| .mv rfl rfl <| .mv rfl rfl <| .mv rfl rfl <| ?_
  obtain ⟨x4, c4, ⟨hx4, hy4, hz4, hc4, hb4⟩, R4⟩ := s_l1Below c3 hc3 25 (by decide)
  have hy4 := hy4 (by decide)
  refine .cPz rfl rfl rfl R4 .refl rfl rfl rfl (by decide) <| .add rfl rfl rfl (by omega) <| .stA rfl rfl rfl rfl rfl rfl <| .mv rfl rfl <| .mv rfl rfl <| .nil (by kernel_rfl) <| .ret rfl ⟨t, k - 1, k - 1 + x4, rfl, rfl, ht, by omega, by omega, by omega⟩ (.tup3 (.agg5 .r (.ox rfl (by first | exact fun _ => rfl | exact fun h => by cases h)) (.ox rfl (by first | exact fun _ => rfl | exact fun h => by cases h)) (.ox rfl (by first | exact fun _ => rfl | exact fun h => by cases h)) (.ox rfl (by first | exact fun _ => rfl | exact fun h => by cases h))) .r .r) LeBs.refl
theorem s_DrawTreeRange (code : List UInt8) (h : code.length ≤ 1048576) : ∃ t lo hi, (t.B ∧ -1 ≤ lo ∧ lo ≤ hi ∧ hi ≤ 2000) ∧ RF Y 27 [.fro true 1 (code.map Bc)] (.tup [Tr.o t, i64 lo, i64 hi]) [] := by
  obtain ⟨r, o, ⟨t, lo, hi, rfl, rfl, hp⟩, hr⟩ := s_DrawTreeRange_x code h
  exact ⟨t, lo, hi, hp, hr⟩
theorem l_FnGot (code : List UInt8) : RF Y 4 [.fro true 1 (code.map Bc)] (.b true) [] := by
  refine RF.s1 rfl rfl rfl fun Q hQ => ?_
  refine .seq <| .reg <| .mv rfl rfl <| .nil <| .seq <| .seq <| .reg <| .mv rfl rfl <| .c rfl rfl rfl (l_big code) .refl rfl rfl rfl (by decide) <| .bB (fun h1 => ?_) (fun h1 => ?_)
  · refine .nil <| .condT rfl <| .seq <| .reg <| .mv rfl rfl <| .nil <| .ret rfl hQ .r LeBs.refl
  · have hlen : code.length ≤ 1048576 := by simp at h1; omega
    refine .nil <| .condF rfl <| .skip <| .seq <| .reg <| .mv rfl rfl <| ?_
    obtain ⟨t, k, ⟨⟨hw, hsz⟩, hk1, hk2⟩, R1⟩ := s_DrawTreeGet code hlen
    have hpl := tpend_len t k
    have hml := tmap_len t
    have hgm := tget_map t (k := k) ⟨hk1, hk2⟩
    refine .cz rfl rfl rfl (R1) .refl rfl rfl rfl (by decide) <| .mv rfl rfl <| .ex rfl rfl rfl <| .ex rfl rfl rfl <| .new rfl <| .stA rfl rfl rfl rfl rfl rfl <| .mv rfl rfl <| .nil <| .seq <| .reg <| .aE rfl rfl rfl rfl <| .mv rfl rfl <| .c rfl rfl rfl (i_TreeGet t k (by omega)) (.c (.trF _) (.c .r .n)) rfl rfl rfl (by decide) <| .mv rfl rfl <| .ex rfl rfl rfl <| .ex rfl rfl rfl <| .mv rfl rfl <| .mv rfl rfl <| .nil <| .seq <| .reg <| .aE rfl rfl rfl rfl <| .mv rfl rfl <| .c rfl rfl rfl (s_TreeGet t k (by omega)) (.c (.trF _) (.c .r .n)) rfl rfl rfl (by decide) <| .mv rfl rfl <| .ex rfl rfl rfl <| .ex rfl rfl rfl <| .mv rfl rfl <| .mv rfl rfl <| .nil <| .seq <| .seq <| .reg <| .mv rfl rfl <| .mv rfl rfl <| .neq rfl rfl rfl (fun h2 => ?_) (fun h2 => ?_)
    · exact absurd rfl h2
    · refine .mv rfl rfl <| .g rfl rfl <| .mv rfl rfl <| .g rfl rfl <| .mv rfl rfl <| .g rfl rfl <| .bne rfl rfl rfl <| .bB (fun h3 => ?_) (fun h3 => ?_)
      · simp at h3
      · refine .pickF rfl rfl rfl <| .nil <| .condF rfl <| .skip <| .seq <| .reg <| .aE rfl rfl rfl rfl <| .mv rfl rfl <| .c rfl rfl rfl (i_Pending t k (by omega)) (.c (.trF _) (.c .r .n)) rfl rfl rfl (by decide) <| .mv rfl rfl <| .nil <| .seq <| .seq <| .reg <| .mv rfl rfl <| .aE rfl rfl rfl rfl <| .mv rfl rfl <| .c rfl rfl rfl (s_Pending t k (by omega)) (.c (.trF _) (.c .r .n)) rfl rfl rfl (by decide) <| .c rfl rfl rfl (l_sameMsgs (tpend t k) (by omega)) (.c (.fz (.rw (fun h => h))) (.c (.fz (.rw (fun h => h))) .n)) rfl rfl rfl (by decide) <| .bB (fun h4 => ?_) (fun h4 => ?_)
        · refine .notT rfl rfl <| .nil <| .condF rfl <| .skip <| .seq <| .seq <| .reg <| .mv rfl rfl <| .nil <| .block <| ?_
          refine RA.loopI fun T0 hT0 nT0 eT0 => ?_
          have L0 : ∀ (post pre : List Ms)  (Q : Qst), (tpend t k) = pre ++ post → Q (.b true) [] → RA Y a4 T0 [(3, .elt 0 0 0), (4, i64 k), (5, i64 (tget t k).1), (6, .b (tget t k).2), (9, .row 5), (10, i64 pre.length)] [(0, .box [.b t.leaf, .row 1, .row 2, .row 3, .row 4]), (1, .row true 2 0 (t.ps.map Pr.c)), (2, .row true 1 0 (t.cs.map Ic)), (3, .row false 5 0 (t.ks.map Tr.e)), (4, .row true 3 0 (t.bs.map Ms.c)), (5, .row true 3 0 ((tpend t k).map Ms.c))] 6 Q := by
            intro post
            induction post with
            | nil =>
              intro pre  Q hc  hQ
              have hl : (tpend t k).length = pre.length := by simp [hc]
              rw [eT0]
              refine .seq <| .seq <| .reg <| .mv rfl rfl <| .mv rfl rfl <| .len rfl rfl rfl <| .lssF rfl rfl rfl (by omega) <| .nil <| .condF rfl <| .exit rfl <| .seq <| .reg <| .aE rfl rfl rfl rfl <| .c rfl rfl rfl (i_TreeMap t (by omega)) (.c (.trF _) .n) rfl rfl rfl (by decide) <| .mv rfl rfl <| .c rfl rfl rfl (i_MapGet (tmap t) k (by omega)) (.c (.fz (.rw (fun h => h))) (.c .r .n)) rfl rfl rfl (by decide) <| .mv rfl rfl <| .ex rfl rfl rfl <| .ex rfl rfl rfl <| .mv rfl rfl <| .mv rfl rfl <| .nil <| .seq <| .reg <| .mv rfl rfl <| .mv rfl rfl <| .eql rfl rfl rfl (fun h6 => ?_) (fun h6 => ?_)
              · refine .mv rfl rfl <| .g rfl rfl <| .mv rfl rfl <| .g rfl rfl <| .mv rfl rfl <| .g rfl rfl <| .beq rfl rfl rfl <| .bB (fun h7 => ?_) (fun h7 => ?_)
                · refine .pickT rfl rfl rfl <| .mv rfl rfl <| .g rfl rfl <| .aE rfl rfl rfl rfl <| .g rfl rfl <| .c rfl rfl rfl (s_TreeOk t (by omega)) (.c (.trF _) .n) rfl rfl rfl (by decide) <| .bB (fun h8 => ?_) (fun h8 => ?_)
                  · refine .g rfl rfl <| .mv rfl rfl <| .gs rfl rfl rfl <| .gs rfl rfl rfl <| .gs rfl rfl rfl <| .g rfl rfl <| .pickT rfl rfl rfl <| .pickT rfl rfl rfl <| .mv rfl rfl <| .nil <| .ret rfl hQ .r LeBs.refl
                  · refine .g rfl rfl <| .mv rfl rfl <| .g rfl rfl <| .mv rfl rfl <| .g rfl rfl <| .len rfl rfl rfl <| .g rfl rfl <| .eql rfl rfl rfl (fun h9 => ?_) (fun h9 => ?_)
                    · refine .g rfl rfl <| .pickF rfl rfl rfl <| .pickT rfl rfl rfl <| .mv rfl rfl <| .nil <| .ret rfl hQ .r LeBs.refl
                    · exact absurd (by rw [tpend, if_neg (by simp [h8])]; rfl) h9
                · rw [hgm] at h7; simp at h7
              · exact absurd (by rw [hgm]) h6
            | cons a post ih =>
              intro pre  Q hc  hQ
              have hl : (tpend t k).length = pre.length + post.length + 1 := by simp [hc]; omega
              have ha : (tpend t k)[pre.length]? = some a := by simp [hc]
              have hac : ((tpend t k).map Ms.c)[pre.length]? = some (Ms.c a) := by rw [List.getElem?_map, ha]; rfl
              rw [eT0]
              refine .seq <| .seq <| .reg <| .mv rfl rfl <| .mv rfl rfl <| .len rfl rfl rfl <| .lssT rfl rfl rfl (by omega) <| .nil <| .condT rfl <| .skip <| .seq <| .block <| .seq <| .reg <| .mv rfl rfl <| .mv rfl rfl <| .iaR rfl rfl rfl rfl (by first | assumption | (simp; omega)) <| .fa rfl rfl <| .ldR rfl rfl rfl (by assumption) rfl <| .mv rfl rfl <| .neq rfl rfl rfl (fun h6 => ?_) (fun h6 => ?_)
              · exact absurd (by unfold tpend at ha; split at ha; exact pend_key k 7 t a (List.mem_of_getElem? ha); simp at ha) h6
              · refine .nil <| .condF rfl <| .skip <| .inBlock <| .reg <| .mv rfl rfl <| .add rfl rfl rfl (by omega) <| .mv rfl rfl <| .nil <| hT0 <| ?_
                exact RA.wk [_, _, _, _, _, _] (ih (pre ++ [a])  _ (by simp [hc])  hQ) nT0 (by exact .l rfl rfl rfl <| .k rfl rfl <| .k rfl rfl <| .k rfl rfl <| .r rfl rfl <| .i rfl (by simp) .nil) (by exact .b rfl rfl (.box5 (.v .refl rfl) (.row rfl) (.row rfl) (.row rfl) (.row rfl)) <| .r rfl rfl (fun _ => rfl) <| .r rfl rfl (fun _ => rfl) <| .r rfl rfl (fun h => by cases h) <| .r rfl rfl (fun _ => rfl) <| .r rfl rfl (fun _ => rfl) .nil) (by decide) (by decide)
          exact RA.wk [_, _, _, _, _, _] (L0 (tpend t k) []  _ rfl  hQ) nT0 (by exact .l rfl rfl rfl <| .k rfl rfl <| .k rfl rfl <| .k rfl rfl <| .r rfl rfl <| .k rfl rfl .nil) (by exact .b rfl rfl (.box5 (.v .refl rfl) (.row rfl) (.row rfl) (.row rfl) (.row rfl)) <| .r rfl rfl (fun _ => rfl) <| .r rfl rfl (fun _ => rfl) <| .r rfl rfl (fun h => by cases h) <| .r rfl rfl (fun _ => rfl) <| .r rfl rfl (fun _ => rfl) .nil) (by decide) (by decide)
        · cases h4
theorem l_FnRanged (code : List UInt8) : RF Y 5 [.fro true 1 (code.map Bc)] (.b true) [] := by
  refine RF.s1 rfl rfl rfl fun Q hQ => ?_
  refine .seq <| .reg <| .mv rfl rfl <| .nil <| .seq <| .seq <| .reg <| .mv rfl rfl <| .c rfl rfl rfl (l_big code) .refl rfl rfl rfl (by decide) <| .bB (fun h1 => ?_) (fun h1 => ?_)
  · refine .nil <| .condT rfl <| .seq <| .reg <| .mv rfl rfl <| .nil <| .ret rfl hQ (.be (by first | rfl | (rw [inR_ok hin.ok]))) LeBs.refl
  · have hlen : code.length ≤ 1048576 := by simp at h1; omega
    refine .nil <| .condF rfl <| .skip <| .seq <| .reg <| .mv rfl rfl <| ?_
    obtain ⟨t, lo, hi, ⟨⟨hw, hsz⟩, hk1, hk2, hk3⟩, R1⟩ := s_DrawTreeRange code hlen
    have hml := tmap_len t
    have hin := tmap_in t
    have hr1 := inR_len lo hi (tmap t)
    have hr2 := inR_len hi hi (tmap t)
    have hr3 := inR_len lo (lo + (atI code 1).tmod 25) (tmap t)
    have hr4 := inR_len (lo + (atI code 1).tmod 25) hi (tmap t)
    have hat := atI_ok code 1
    have hm1 := Int.tmod_nonneg (a := atI code 1) 25 hat.1
    have hm2 := Int.tmod_lt_of_pos (atI code 1) (b := 25) (by decide)
    refine .cz rfl rfl rfl (R1) .refl rfl rfl rfl (by decide) <| .mv rfl rfl <| .ex rfl rfl rfl <| .ex rfl rfl rfl <| .ex rfl rfl rfl <| .new rfl <| .stA rfl rfl rfl rfl rfl rfl <| .mv rfl rfl <| .mv rfl rfl <| .nil <| .seq <| .reg <| .aE rfl rfl rfl rfl <| .mv rfl rfl <| .mv rfl rfl <| .c rfl rfl rfl (i_TreeRange t lo hi (by omega)) (.c (.trF _) (.c .r (.c .r .n))) rfl rfl rfl (by decide) <| .mv rfl rfl <| .nil <| .seq <| .seq <| .regD <| .mv rfl rfl <| .aE rfl rfl rfl rfl <| .mv rfl rfl <| .mv rfl rfl <| .c rfl rfl rfl (s_TreeRange t lo hi (by omega)) (.c (.trF _) (.c .r (.c .r .n))) rfl rfl rfl (by decide) <| .c rfl rfl rfl (l_samePairs (inR lo hi (tmap t)) (by have := inR_len lo hi (tmap t); omega)) (.c (.fz (.rx (fun h => h) rfl)) (.c (.fz (.rx (fun h => h) rfl)) .n)) rfl rfl rfl (by decide) <| .bB (fun h2 => ?_) (fun h2 => ?_)
    · refine .notT rfl rfl <| .mv rfl rfl <| .g rfl rfl <| .aE rfl rfl rfl rfl <| .g rfl rfl <| .c rfl rfl rfl (i_TreeMap t (by omega)) (.c (.trF _) .n) rfl rfl rfl (by decide) <| .g rfl rfl <| .aE rfl rfl rfl rfl <| .g rfl rfl <| .c rfl rfl rfl (s_TreeMap t (by omega)) (.c (.trF _) .n) rfl rfl rfl (by decide) <| .g rfl rfl <| .c rfl rfl rfl (l_samePairs (tmap t) (by omega)) (.c (.fz (.rx (fun h => h) rfl)) (.c (.fz (.rx (fun h => h) rfl)) .n)) rfl rfl rfl (by decide) <| .bB (fun h3 => ?_) (fun h3 => ?_)
      · refine .g rfl rfl <| .notT rfl rfl <| .pickF rfl rfl rfl <| .nil (by kernel_rfl) <| .condF rfl <| .skip <| .seq <| .reg <| .mv rfl rfl <| .mv rfl rfl <| .c rfl rfl rfl (l_at code 1 hlen (by decide)) .refl rfl rfl rfl (by decide) <| .rem rfl rfl rfl (by first | decide | omega) <| .add rfl rfl rfl (by omega) <| .mv rfl rfl <| .nil <| .seq <| .seq <| .reg <| .mv rfl rfl <| .mv rfl rfl <| .gtr rfl rfl rfl (fun h4 => ?_) (fun h4 => ?_)
        · refine .nil <| .condT rfl <| .reg <| .mv rfl rfl <| .mv rfl rfl <| .nil <| .seq <| .regD <| .aE rfl rfl rfl rfl <| .mv rfl rfl <| .mv rfl rfl <| .c rfl rfl rfl (i_TreeRange t lo hi (by omega)) (.c (.trF _) (.c .r (.c .r .n))) rfl rfl rfl (by decide) <| .aE rfl rfl rfl rfl <| .mv rfl rfl <| .mv rfl rfl <| .c rfl rfl rfl (i_TreeRange t hi hi (by omega)) (.c (.trF _) (.c .r (.c .r .n))) rfl rfl rfl (by decide) <| .ap rfl rfl rfl rfl rfl (by simp; omega) (by decide) <| .mv rfl rfl <| .c rfl rfl rfl (l_samePairs (inR lo hi (tmap t)) (by have := inR_len lo hi (tmap t); omega)) (.c (.fz (.rx (fun h => h) (inR_cat (by omega) (by omega) hin.1))) (.c (.fz (.rx (fun h => h) rfl)) .n)) rfl rfl rfl (by decide) <| .bB (fun h5 => ?_) (fun h5 => ?_)
          · refine .mv rfl rfl <| .g rfl rfl <| .aE rfl rfl rfl rfl <| .g rfl rfl <| .c rfl rfl rfl (i_TreeRange t 0 1000 (by omega)) (.c (.trF _) (.c .r (.c .r .n))) rfl rfl rfl (by decide) <| .g rfl rfl <| .aE rfl rfl rfl rfl <| .g rfl rfl <| .c rfl rfl rfl (i_TreeMap t (by omega)) (.c (.trF _) .n) rfl rfl rfl (by decide) <| .g rfl rfl <| .c rfl rfl rfl (l_samePairs (tmap t) (by omega)) (.c (.fz (.rx (fun h => h) (inR_all hin))) (.c (.fz (.rx (fun h => h) rfl)) .n)) rfl rfl rfl (by decide) <| .bB (fun h6 => ?_) (fun h6 => ?_)
            · refine .pickT rfl rfl rfl <| .mv rfl rfl <| .g rfl rfl <| .mv rfl rfl <| .g rfl rfl <| .c rfl rfl rfl (i_MapOk (inR lo hi (tmap t)) (by have := inR_len lo hi (tmap t); omega)) (.c (.fz (.rw (fun h => h))) .n) rfl rfl rfl (by decide) <| .pickT rfl rfl rfl <| .mv rfl rfl <| .nil (by kernel_rfl) <| .ret rfl hQ (.be (by first | rfl | (rw [inR_ok hin.ok]))) LeBs.refl
            · cases h6
          · cases h5
        · refine .nil <| .condF rfl <| .skip <| .seq <| .regD <| .aE rfl rfl rfl rfl <| .mv rfl rfl <| .mv rfl rfl <| .c rfl rfl rfl (i_TreeRange t lo (lo + (atI code 1).tmod 25) (by omega)) (.c (.trF _) (.c .r (.c .r .n))) rfl rfl rfl (by decide) <| .aE rfl rfl rfl rfl <| .mv rfl rfl <| .mv rfl rfl <| .c rfl rfl rfl (i_TreeRange t (lo + (atI code 1).tmod 25) hi (by omega)) (.c (.trF _) (.c .r (.c .r .n))) rfl rfl rfl (by decide) <| .ap rfl rfl rfl rfl rfl (by simp; omega) (by decide) <| .mv rfl rfl <| .c rfl rfl rfl (l_samePairs (inR lo hi (tmap t)) (by have := inR_len lo hi (tmap t); omega)) (.c (.fz (.rx (fun h => h) (inR_cat (by omega) (by omega) hin.1))) (.c (.fz (.rx (fun h => h) rfl)) .n)) rfl rfl rfl (by decide) <| .bB (fun h7 => ?_) (fun h7 => ?_)
          · refine .mv rfl rfl <| .g rfl rfl <| .aE rfl rfl rfl rfl <| .g rfl rfl <| .c rfl rfl rfl (i_TreeRange t 0 1000 (by omega)) (.c (.trF _) (.c .r (.c .r .n))) rfl rfl rfl (by decide) <| .g rfl rfl <| .aE rfl rfl rfl rfl <| .g rfl rfl <| .c rfl rfl rfl (i_TreeMap t (by omega)) (.c (.trF _) .n) rfl rfl rfl (by decide) <| .g rfl rfl <| .c rfl rfl rfl (l_samePairs (tmap t) (by omega)) (.c (.fz (.rx (fun h => h) (inR_all hin))) (.c (.fz (.rx (fun h => h) rfl)) .n)) rfl rfl rfl (by decide) <| .bB (fun h8 => ?_) (fun h8 => ?_)
            · refine .pickT rfl rfl rfl <| .mv rfl rfl <| .g rfl rfl <| .mv rfl rfl <| .g rfl rfl <| .c rfl rfl rfl (i_MapOk (inR lo hi (tmap t)) (by have := inR_len lo hi (tmap t); omega)) (.c (.fz (.rw (fun h => h))) .n) rfl rfl rfl (by decide) <| .pickT rfl rfl rfl <| .mv rfl rfl <| .nil (by kernel_rfl) <| .ret rfl hQ (.be (by first | rfl | (rw [inR_ok hin.ok]))) LeBs.refl
            · cases h8
          · cases h7
      · cases h3
    · cases h2
end Go.Proofs.Ytjjocahgbmibeaa
