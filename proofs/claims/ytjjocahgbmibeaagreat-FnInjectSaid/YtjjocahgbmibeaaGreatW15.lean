/- Walks: trees that change (the program). -/
import Derived.Test.YtjjocahgbmibeaaGreatW14
import Derived.Test.YtjjocahgbmibeaaGreatW9
namespace Go.Proofs.YtjjocahgbmibeaaGreat
open Go.Eng
set_option maxRecDepth 4000
set_option linter.unusedSimpArgs false
set_option linter.unusedVariables false
theorem _root_.Go.Eng.LeF.ey {fl fl' : Bool} {es : Nat} {xs ys : List (List AV)} (he : xs = ys) (hf : fl' = true → fl = true) : LeF (.fro fl es xs) (.fro fl' es ys) := by
  subst he
  have h := (LeF.rx (xs := xs.map id) (f := id) (l := xs) (l' := xs) (es := es) hf rfl)
  simpa using h
/-- Where parts begin. -/
def partsL (n : Nat) : List Int := (List.range (n / 2)).map fun j => ((2 * j : Nat) : Int)
theorem partsL_len (n : Nat) : (partsL n).length = n / 2 := by simp [partsL]
theorem partsL_at {n j : Nat} (h : j < n / 2) : (partsL n)[j]? = some ((2 * j : Nat) : Int) := by
  unfold partsL; rw [List.getElem?_map, List.getElem?_range h]; rfl
theorem i_parts (n : Nat) (h2 : 2 ≤ n) (hn : n ≤ 1000000) : RF Y 149 [i64 n] (.own true 1 0 ((partsL n).map Ic)) [] := by
  refine RF.s1 rfl rfl rfl fun Q hQ => ?_
  refine .seq <| .reg <| .mv rfl rfl <| .nil <| .seq <| .reg <| .row0 rfl rfl rfl <| .mv rfl rfl <| .nil <| .seq <| .seq <| .reg <| .mv rfl rfl <| .nil <| .block <| ?_
  refine RA.loopI fun T0 hT0 nT0 eT0 => ?_
  have L0 : ∀ (f j : Nat) (Q : Qst), f = n - j → j ≤ n / 2 → 0 = 0 → Q (.own true 1 0 ((partsL n).map Ic)) [] →
      RA Y a149 T0 [(0, i64 n), (3, .row 0), (4, i64 (2 * j : Nat))] [(0, .row true 1 0 (((List.range j).map fun j => ((2 * j : Nat) : Int)).map Ic))] 1 Q := by
    intro f
    induction f using Nat.strongRecOn with
    | _ f IH =>
      intro j Q hf hj _ hQ
      rw [eT0]
      refine .seq <| .seq <| .reg <| .mv rfl rfl <| .add rfl rfl rfl (by omega) <| .mv rfl rfl <| .lss rfl rfl rfl (fun h1 => ?_) (fun h1 => ?_)
      · refine .mv rfl rfl <| .gs rfl rfl rfl <| .gs rfl rfl rfl <| .pickT rfl rfl rfl <| .nil <| .condT rfl <| .skip <| .seq <| .block <| .reg <| .mv rfl rfl <| .mv rfl rfl <| .row1P rfl rfl rfl rfl rfl rfl rfl rfl <| .ap rfl rfl rfl rfl rfl (by simp; omega) (by decide) <| .mv rfl rfl <| .nil <| .inBlock <| .reg <| .mv rfl rfl <| .add rfl rfl rfl (by omega) <| .mv rfl rfl <| .nil <| hT0 <| ?_
        exact RA.ws [_] (IH _ (by omega) (j + 1) _ rfl (by omega) rfl hQ) nT0 (by exact .k rfl rfl <| .r rfl rfl <| .i rfl (by omega) .nil) (by exact .x rfl rfl (by rw [List.range_succ, List.map_append, List.map_append]; rfl) (fun _ => rfl) .nil)
      · refine .mv rfl rfl <| .g rfl rfl <| .mv rfl rfl <| .g rfl rfl <| .eql rfl rfl rfl (fun h2 => ?_) (fun h2 => ?_)
        · refine .pickF rfl rfl rfl <| .nil <| .condT rfl <| .skip <| .seq <| .block <| .reg <| .mv rfl rfl <| .mv rfl rfl <| .row1P rfl rfl rfl rfl rfl rfl rfl rfl <| .ap rfl rfl rfl rfl rfl (by simp; omega) (by decide) <| .mv rfl rfl <| .nil <| .inBlock <| .reg <| .mv rfl rfl <| .add rfl rfl rfl (by omega) <| .mv rfl rfl <| .nil <| hT0 <| ?_
          exact RA.ws [_] (IH _ (by omega) (j + 1) _ rfl (by omega) rfl hQ) nT0 (by exact .k rfl rfl <| .r rfl rfl <| .i rfl (by omega) .nil) (by exact .x rfl rfl (by rw [List.range_succ, List.map_append, List.map_append]; rfl) (fun _ => rfl) .nil)
        · obtain rfl : j = n / 2 := by omega
          refine .pickF rfl rfl rfl <| .nil <| .condF rfl <| .exit rfl <| .seq <| .reg <| .mv rfl rfl <| .mv rfl rfl <| .nil <| .ret rfl hQ (.ox rfl (fun _ => rfl)) LeBs.refl
  exact RA.wr [_] (L0 _ 0 _ rfl (Nat.zero_le _) rfl hQ) nT0 (hm := by exact .x rfl rfl rfl (fun _ => rfl) .nil)
theorem i_end (l : List Int) (i : Nat) (n : Int) (h : l.length ≤ 1000000) (hi : i ≤ 1000000) : RF Y 150 [.fro true 1 (l.map Ic), i64 i, i64 n] (i64 (l.getD (i + 1) n)) [] := by
  refine RF.s3 rfl rfl rfl fun Q hQ => ?_
  refine .seq <| .reg <| .mv rfl rfl <| .nil <| .seq <| .seq <| .reg <| .mv rfl rfl <| .add rfl rfl rfl (by omega) <| .mv rfl rfl <| .len rfl rfl rfl <| .lss rfl rfl rfl (fun h1 => ?_) (fun h1 => ?_)
  · obtain ⟨c, hcc⟩ : ∃ c, l[i + 1]? = some c := ⟨_, getD_at (by omega)⟩
    rw [show l.getD (i + 1) n = c by simp [List.getD, hcc]] at hQ
    refine .nil <| .condT rfl <| .seq <| .reg <| .mv rfl rfl <| .mv rfl rfl <| .add rfl rfl rfl (by omega) <| .ia rfl rfl rfl (by assumption) <| .ldF rfl rfl rfl <| .mv rfl rfl <| .nil <| .ret rfl hQ .r LeBs.refl
  · rw [show l.getD (i + 1) n = n by simp [List.getD, List.getElem?_eq_none (show l.length ≤ i + 1 by omega)]] at hQ
    refine .nil <| .condF rfl <| .skip <| .seq <| .reg <| .mv rfl rfl <| .mv rfl rfl <| .nil <| .ret rfl hQ .r LeBs.refl
theorem i_end_parts {n j : Nat} (h2 : 2 ≤ n) (hj : j < n / 2) (hn : n ≤ 1000000) : RF Y 150 [.fro true 1 ((partsL n).map Ic), i64 j, i64 n] (i64 (2 * j + many (n - 2 * j) : Nat)) [] := by
  have hl := partsL_len n
  have := i_end (partsL n) j n (by omega) (by omega)
  have e : (partsL n).getD (j + 1) (n : Int) = ((2 * j + many (n - 2 * j) : Nat) : Int) := by
    by_cases hk : j + 1 < n / 2
    · have := partsL_at hk
      simp only [List.getD, this, Option.getD_some]
      unfold many; rw [if_neg (by omega)]; omega
    · have : (partsL n)[j + 1]? = none := List.getElem?_eq_none (by omega)
      simp only [List.getD, this, Option.getD_none]
      unfold many; split <;> omega
  rw [e] at this
  exact this
theorem i_grouped (m : Mn) (h2 : 2 ≤ m.ts.length) (h : m.cs.length + 1 = m.ts.length) (hm : m.ts.length ≤ 1000000) : RF Y 102 [.agg (Mn.e m)] (Mn.o (pack m)) [] := by
  refine RF.s1 rfl rfl rfl fun Q hQ => ?_
  refine .seq <| .reg <| .box rfl rfl rfl <| .new rfl <| .nil <| .seq <| .reg <| .build (cs := [_, _]) rfl rfl rfl <| .new rfl <| .stA rfl rfl rfl rfl rfl rfl <| .nil <| .seq <| .reg <| .fa rfl rfl <| .ldE rfl rfl rfl rfl <| .len rfl rfl rfl <| .c rfl rfl rfl (i_parts m.ts.length h2 hm) .refl rfl rfl rfl (by decide) <| .mv rfl rfl <| .nil <| .seq <| .seq <| .reg <| .mv rfl rfl <| .len rfl rfl rfl <| .mv rfl rfl <| .nil <| .block <| ?_
  refine RA.loopI fun T0 hT0 nT0 eT0 => ?_
  have L0 : ∀ (f j : Nat) (out : Mn) (Q : Qst), f = m.ts.length / 2 - j → j ≤ m.ts.length / 2 → out.ts.length ≤ j → out.cs.length ≤ j → Q (Mn.o ⟨out.ts ++ (packAt m (if j < m.ts.length / 2 then 2 * j else m.ts.length)).ts, out.cs ++ (packAt m (if j < m.ts.length / 2 then 2 * j else m.ts.length)).cs⟩) [] →
      RA Y a102 T0 [(1, .elt 0 0 0), (2, .elt 1 0 0), (3, .elt 2 0 0), (4, .row 5), (13, .row 5), (14, i64 (m.ts.length / 2 : Nat)), (15, i64 j)] [(0, .box (Mn.e m)), (1, .box [.emp, .emp]), (2, .box [.row 3, .row 4]), (3, .row false 5 0 (out.ts.map Tr.e)), (4, .row true 1 0 (out.cs.map Ic)), (5, .row true 1 0 ((partsL m.ts.length).map Ic))] 6 Q := by
    intro f
    induction f using Nat.strongRecOn with
    | _ f IH =>
      intro j out Q hf hj ho1 ho2 hQ
      rw [eT0]
      refine .seq <| .reg <| .lss rfl rfl rfl (fun h1 => ?_) (fun h1 => ?_)
      · have hjl : j < m.ts.length / 2 := by omega
        have hpa := partsL_at hjl
        have hpc : ((partsL m.ts.length).map Ic)[j]? = some (Ic ((2 * j : Nat) : Int)) := by rw [List.getElem?_map, hpa]; rfl
        have hpl := partsL_len m.ts.length
        rw [if_pos hjl] at hQ
        obtain ⟨k1, k2, k3, k4⟩ := many_ok (n := m.ts.length - 2 * j) (by omega) (by omega)
        have hnx : (if j + 1 < m.ts.length / 2 then 2 * (j + 1) else m.ts.length) = 2 * j + many (m.ts.length - 2 * j) := by
          unfold many; split <;> split <;> omega
        refine .nil <| .seq <| .condT rfl <| .skip <| .seq <| .block <| .seq <| .reg <| .mv rfl rfl <| .iaR rfl rfl rfl rfl (by first | assumption | (simp; omega)) <| .ldR rfl rfl rfl (by assumption) rfl <| .mv rfl rfl <| .mv rfl rfl <| .nil <| .seq <| .reg <| .mv rfl rfl <| .mv rfl rfl <| .fa rfl rfl <| .ldE rfl rfl rfl rfl <| .len rfl rfl rfl <| .c rfl rfl rfl (i_end_parts h2 hjl hm) (.c (.fz (.rw (fun h => h))) (.c .r (.c .r .n))) rfl rfl rfl (by decide) <| .mv rfl rfl <| .nil <| .seq <| .seq <| .reg <| .mv rfl rfl <| .gtr rfl rfl rfl (fun h2 => ?_) (fun h2 => ?_)
        · obtain ⟨c, hcc⟩ : ∃ c, m.cs[2 * j - 1]? = some c := ⟨_, getD_at (by omega)⟩
          have hcc' : m.cs[(((2 * j : Nat) : Int) - 1).toNat]? = some c := by rw [show (((2 * j : Nat) : Int) - 1).toNat = 2 * j - 1 by omega]; exact hcc
          refine .nil <| .condT rfl <| .regD <| .fa rfl rfl <| .ldE rfl rfl rfl rfl <| .fa rfl rfl <| .ldE rfl rfl rfl rfl <| .mv rfl rfl <| .sub rfl rfl rfl (by omega) <| .iaI rfl rfl rfl (by omega) (by assumption) <| .ldF rfl rfl rfl <| .row1P rfl rfl rfl rfl rfl rfl rfl rfl <| .ap rfl rfl rfl rfl rfl (by simp; omega) (by decide) <| .fa rfl rfl <| .st1 rfl rfl rfl rfl rfl (of_decide_eq_true rfl) <| .nil (by kernel_rfl) <| .regD <| .fa rfl rfl <| .ldE rfl rfl rfl rfl <| .fa rfl rfl <| .ldE rfl rfl rfl rfl <| .mv rfl rfl <| .mv rfl rfl <| .slF rfl rfl (by decide) bnd_nat (bnd_int (by omega)) (by simp; omega) <| .cz rfl rfl rfl (Clone_Tree _ (by simp; omega)) .refl rfl rfl rfl (by decide) <| .fa rfl rfl <| .ldE rfl rfl rfl rfl <| .mv rfl rfl <| .mv rfl rfl <| .sub rfl rfl rfl (by omega) <| .slF rfl rfl (by decide) bnd_nat (bnd_int (by omega)) (by simp; omega) <| .c rfl rfl rfl (Clone_int _ (by simp; omega)) .refl rfl rfl rfl (by decide) <| .build (cs := [_, _, _, _, _]) rfl rfl rfl <| .row1 (qs := [_, _, _, _, _]) (u := [_, _]) rfl rfl rfl rfl rfl rfl rfl rfl <| .ap rfl rfl rfl rfl rfl (by simp; omega) (by decide) <| .fa rfl rfl <| .st1 rfl rfl rfl rfl rfl (of_decide_eq_true rfl) <| .nil (by kernel_rfl) <| .inBlock <| .reg <| .add rfl rfl rfl (by omega) <| .mv rfl rfl <| .nil <| hT0 <| ?_
          rw [packAt_step (k := (many (m.ts.length - 2 * j))) (by omega) rfl] at hQ
          exact RA.ws [_, _, _, _, _, _] (IH _ (by omega) (j + 1) ⟨out.ts ++ [nodeT ((m.cs.drop (2 * j)).take ((many (m.ts.length - 2 * j)) - 1)) ((m.ts.drop (2 * j)).take (many (m.ts.length - 2 * j))) []], (out.cs ++ [c])⟩ _ rfl (by omega) (by simp; omega) (by simp; omega) (by rw [hnx]; simpa [cutAt, show 2 * j ≠ 0 by omega, hcc] using hQ)) nT0 (by exact .l rfl rfl rfl <| .l rfl rfl rfl <| .l rfl rfl rfl <| .r rfl rfl <| .r rfl rfl <| .k rfl rfl <| .i rfl (by omega) .nil) (by exact .b rfl rfl (.same rfl) <| .b rfl rfl (.same rfl) <| .b rfl rfl (.box2 (.row rfl) (.row rfl)) <| .s rfl rfl (fun h => by cases h) rfl (leTr rfl .emp (.rx (fun _ => rfl) (by simp only [nodeT, Tr.cs]; rw [List.drop_take]; congr 1; omega)) (.kx (by simp only [nodeT, Tr.ks]; rw [List.drop_take]; congr 1; omega)) .emp) <| .r rfl rfl (fun _ => rfl) <| .r rfl rfl (fun _ => rfl) .nil)
        · refine .nil <| .condF rfl <| .skip <| .regD <| .fa rfl rfl <| .ldE rfl rfl rfl rfl <| .fa rfl rfl <| .ldE rfl rfl rfl rfl <| .mv rfl rfl <| .mv rfl rfl <| .slF rfl rfl (by decide) bnd_nat (bnd_int (by omega)) (by simp; omega) <| .cz rfl rfl rfl (Clone_Tree _ (by simp; omega)) .refl rfl rfl rfl (by decide) <| .fa rfl rfl <| .ldE rfl rfl rfl rfl <| .mv rfl rfl <| .mv rfl rfl <| .sub rfl rfl rfl (by omega) <| .slF rfl rfl (by decide) bnd_nat (bnd_int (by omega)) (by simp; omega) <| .c rfl rfl rfl (Clone_int _ (by simp; omega)) .refl rfl rfl rfl (by decide) <| .build (cs := [_, _, _, _, _]) rfl rfl rfl <| .row1 (qs := [_, _, _, _, _]) (u := [_, _]) rfl rfl rfl rfl rfl rfl rfl rfl <| .ap rfl rfl rfl rfl rfl (by simp; omega) (by decide) <| .fa rfl rfl <| .st1 rfl rfl rfl rfl rfl (of_decide_eq_true rfl) <| .nil (by kernel_rfl) <| .inBlock <| .reg <| .add rfl rfl rfl (by omega) <| .mv rfl rfl <| .nil <| hT0 <| ?_
          rw [packAt_step (k := (many (m.ts.length - 2 * j))) (by omega) rfl] at hQ
          exact RA.ws [_, _, _, _, _, _] (IH _ (by omega) (j + 1) ⟨out.ts ++ [nodeT ((m.cs.drop (2 * j)).take ((many (m.ts.length - 2 * j)) - 1)) ((m.ts.drop (2 * j)).take (many (m.ts.length - 2 * j))) []], out.cs⟩ _ rfl (by omega) (by simp; omega) (by simp; omega) (by rw [hnx]; simpa [cutAt, show j = 0 by omega] using hQ)) nT0 (by exact .l rfl rfl rfl <| .l rfl rfl rfl <| .l rfl rfl rfl <| .r rfl rfl <| .r rfl rfl <| .k rfl rfl <| .i rfl (by omega) .nil) (by exact .b rfl rfl (.same rfl) <| .b rfl rfl (.same rfl) <| .b rfl rfl (.box2 (.row rfl) (.row rfl)) <| .s rfl rfl (fun h => by cases h) rfl (leTr rfl .emp (.rx (fun _ => rfl) (by simp only [nodeT, Tr.cs]; rw [List.drop_take]; congr 1; omega)) (.kx (by simp only [nodeT, Tr.ks]; rw [List.drop_take]; congr 1; omega)) .emp) <| .x rfl rfl rfl (fun _ => rfl) <| .r rfl rfl (fun _ => rfl) .nil)
      · rw [if_neg (by omega), packAt_end (by omega)] at hQ
        refine .nil <| .seq <| .condF rfl <| .exit rfl <| .seq <| .reg <| .aE rfl rfl rfl rfl <| .stA rfl rfl rfl rfl rfl rfl <| .nil <| .ret rfl hQ (.agg2 (.ox (by simp) (by first | exact fun _ => rfl | exact fun h => by cases h)) (.ox (by simp) (by first | exact fun _ => rfl | exact fun h => by cases h))) LeBs.refl
  refine RA.freshT 3 0 5 nT0 rfl rfl rfl (RA.freshT 3 1 1 nT0 rfl rfl rfl ?_)
  exact RA.ws [_, _, _, _, _, _] (L0 _ 0 ⟨[], []⟩ _ rfl (Nat.zero_le _) (Nat.le_refl _) (Nat.le_refl _) (by rw [if_pos (by omega)]; exact hQ)) nT0 (by exact .l rfl rfl rfl <| .l rfl rfl rfl <| .l rfl rfl rfl <| .r rfl rfl <| .r rfl rfl <| .i rfl (by rw [partsL_len]) <| .k rfl rfl .nil) (by exact .b rfl rfl (.same rfl) <| .b rfl rfl (.same rfl) <| .b rfl rfl (.box2 (.row rfl) (.row rfl)) <| .x rfl rfl rfl (fun h => by cases h) <| .x rfl rfl rfl (fun _ => rfl) <| .r rfl rfl (fun _ => rfl) .nil)
theorem i_leaves (ps : List Pr) (h : ps.length ≤ 1000000) : RF Y 103 [.fro true 2 (ps.map Pr.c)] (Mn.o (leavesOf ps)) [] := by
  refine RF.s1 rfl rfl rfl fun Q hQ => ?_
  refine .seq <| .reg <| .new rfl <| .nil <| .seq <| .seq <| .reg <| .mv rfl rfl <| .len rfl rfl rfl <| .leq rfl rfl rfl (fun h1 => ?_) (fun h1 => ?_)
  · rw [show leavesOf ps = ⟨[leafT ps], []⟩ by unfold leavesOf; rw [if_pos (by omega)]] at hQ
    refine .nil <| .condT rfl <| .seq <| .reg <| .mv rfl rfl <| .build (cs := [_, _, _, _, _]) rfl rfl rfl <| .row1P rfl rfl rfl rfl rfl rfl rfl rfl <| .build (cs := [_, _]) rfl rfl rfl <| .stA rfl rfl rfl rfl rfl rfl <| .nil <| .ret rfl hQ (.agg2 (.one (fun h => by cases h) rfl (leTr rfl .refl .emp .emp .emp)) .empO) LeBs.refl
  · refine .nil <| .condF rfl <| .skip <| .seq <| .reg <| .build (cs := [_, _]) rfl rfl rfl <| .new rfl <| .stA rfl rfl rfl rfl rfl rfl <| .nil <| .seq <| .reg <| .mv rfl rfl <| .len rfl rfl rfl <| .c rfl rfl rfl (i_parts ps.length (by omega) h) .refl rfl rfl rfl (by decide) <| .mv rfl rfl <| .nil <| .seq <| .seq <| .reg <| .mv rfl rfl <| .len rfl rfl rfl <| .mv rfl rfl <| .nil <| .block <| ?_
    refine RA.loopI fun T0 hT0 nT0 eT0 => ?_
    have L0 : ∀ (f j : Nat) (out : Mn) (Q : Qst), f = ps.length / 2 - j → j ≤ ps.length / 2 → out.ts.length ≤ j → out.cs.length ≤ j → Q (Mn.o ⟨out.ts ++ (leafAt ps (if j < ps.length / 2 then 2 * j else ps.length)).ts, out.cs ++ (leafAt ps (if j < ps.length / 2 then 2 * j else ps.length)).cs⟩) [] →
        RA Y a103 T0 [(0, .fro true 2 (ps.map Pr.c)), (2, .elt 0 0 0), (3, .elt 1 0 0), (4, .row 4), (18, .row 4), (19, i64 (ps.length / 2 : Nat)), (20, i64 j)] [(0, .box [.emp, .emp]), (1, .box [.row 2, .row 3]), (2, .row false 5 0 (out.ts.map Tr.e)), (3, .row true 1 0 (out.cs.map Ic)), (4, .row true 1 0 ((partsL ps.length).map Ic))] 5 Q := by
      intro f
      induction f using Nat.strongRecOn with
      | _ f IH =>
        intro j out Q hf hj ho1 ho2 hQ
        rw [eT0]
        refine .seq <| .reg <| .lss rfl rfl rfl (fun h2 => ?_) (fun h2 => ?_)
        · have hjl : j < ps.length / 2 := by omega
          have hpa := partsL_at hjl
          have hpc : ((partsL ps.length).map Ic)[j]? = some (Ic ((2 * j : Nat) : Int)) := by rw [List.getElem?_map, hpa]; rfl
          have hpl := partsL_len ps.length
          rw [if_pos hjl] at hQ
          obtain ⟨k1, k2, k3, k4⟩ := many_ok (n := ps.length - 2 * j) (by omega) (by omega)
          obtain ⟨a, ha⟩ : ∃ a, ps[2 * j]? = some a := ⟨_, getD_at (by omega)⟩
          have hnx : (if j + 1 < ps.length / 2 then 2 * (j + 1) else ps.length) = 2 * j + many (ps.length - 2 * j) := by
            unfold many; split <;> split <;> omega
          refine .nil <| .seq <| .condT rfl <| .skip <| .seq <| .block <| .seq <| .reg <| .mv rfl rfl <| .iaR rfl rfl rfl rfl (by first | assumption | (simp; omega)) <| .ldR rfl rfl rfl (by assumption) rfl <| .mv rfl rfl <| .mv rfl rfl <| .nil <| .seq <| .seq <| .reg <| .mv rfl rfl <| .gtr rfl rfl rfl (fun h3 => ?_) (fun h3 => ?_)
          · refine .nil <| .condT rfl <| .regD <| .fa rfl rfl <| .ldE rfl rfl rfl rfl <| .mv rfl rfl <| .mv rfl rfl <| .ia rfl rfl rfl (by assumption) <| .faF rfl rfl <| .ldF rfl rfl rfl <| .row1P rfl rfl rfl rfl rfl rfl rfl rfl <| .ap rfl rfl rfl rfl rfl (by simp; omega) (by decide) <| .fa rfl rfl <| .st1 rfl rfl rfl rfl rfl (of_decide_eq_true rfl) <| .nil (by kernel_rfl) <| .regD <| .fa rfl rfl <| .ldE rfl rfl rfl rfl <| .mv rfl rfl <| .mv rfl rfl <| .mv rfl rfl <| .mv rfl rfl <| .mv rfl rfl <| .len rfl rfl rfl <| .c rfl rfl rfl (i_end_parts (by omega) hjl h) (.c (.fz (.rw (fun h => h))) (.c .r (.c .r .n))) rfl rfl rfl (by decide) <| .slF rfl rfl (by decide) bnd_nat bnd_nat (by simp; omega) <| .c rfl rfl rfl (Clone_Pair ((ps.take (2 * j + many (ps.length - 2 * j))).drop (2 * j)) (by simp; omega)) (.c (.fz (.rw (fun h => h))) .n) rfl rfl rfl (by decide) <| .build (cs := [_, _, _, _, _]) rfl rfl rfl <| .row1 (qs := [_, _, _, _, _]) (u := [_]) rfl rfl rfl rfl rfl rfl rfl rfl <| .ap rfl rfl rfl rfl rfl (by simp; omega) (by decide) <| .fa rfl rfl <| .st1 rfl rfl rfl rfl rfl (of_decide_eq_true rfl) <| .nil (by kernel_rfl) <| .inBlock <| .reg <| .add rfl rfl rfl (by omega) <| .mv rfl rfl <| .nil <| hT0 <| ?_
            rw [leafAt_step (k := (many (ps.length - 2 * j))) ha rfl] at hQ
            exact RA.ws [_, _, _, _, _] (IH _ (by omega) (j + 1) ⟨out.ts ++ [leafT ((ps.drop (2 * j)).take (many (ps.length - 2 * j)))], (out.cs ++ [a.k])⟩ _ rfl (by omega) (by simp; omega) (by simp; omega) (by rw [hnx]; simpa [show 2 * j ≠ 0 by omega] using hQ)) nT0 (by exact .k rfl rfl <| .l rfl rfl rfl <| .l rfl rfl rfl <| .r rfl rfl <| .r rfl rfl <| .k rfl rfl <| .i rfl (by omega) .nil) (by exact .b rfl rfl (.same rfl) <| .b rfl rfl (.box2 (.row rfl) (.row rfl)) <| .s rfl rfl (fun h => by cases h) rfl (leTr rfl (.rx (fun _ => rfl) (by simp only [leafT, Tr.ps]; rw [List.drop_take]; congr 1; omega)) .emp .emp .emp) <| .r rfl rfl (fun _ => rfl) <| .r rfl rfl (fun _ => rfl) .nil)
          · refine .nil <| .condF rfl <| .skip <| .regD <| .fa rfl rfl <| .ldE rfl rfl rfl rfl <| .mv rfl rfl <| .mv rfl rfl <| .mv rfl rfl <| .mv rfl rfl <| .mv rfl rfl <| .len rfl rfl rfl <| .c rfl rfl rfl (i_end_parts (by omega) hjl h) (.c (.fz (.rw (fun h => h))) (.c .r (.c .r .n))) rfl rfl rfl (by decide) <| .slF rfl rfl (by decide) bnd_nat bnd_nat (by simp; omega) <| .c rfl rfl rfl (Clone_Pair ((ps.take (2 * j + many (ps.length - 2 * j))).drop (2 * j)) (by simp; omega)) (.c (.fz (.rw (fun h => h))) .n) rfl rfl rfl (by decide) <| .build (cs := [_, _, _, _, _]) rfl rfl rfl <| .row1 (qs := [_, _, _, _, _]) (u := [_]) rfl rfl rfl rfl rfl rfl rfl rfl <| .ap rfl rfl rfl rfl rfl (by simp; omega) (by decide) <| .fa rfl rfl <| .st1 rfl rfl rfl rfl rfl (of_decide_eq_true rfl) <| .nil (by kernel_rfl) <| .inBlock <| .reg <| .add rfl rfl rfl (by omega) <| .mv rfl rfl <| .nil <| hT0 <| ?_
            rw [leafAt_step (k := (many (ps.length - 2 * j))) ha rfl] at hQ
            exact RA.ws [_, _, _, _, _] (IH _ (by omega) (j + 1) ⟨out.ts ++ [leafT ((ps.drop (2 * j)).take (many (ps.length - 2 * j)))], out.cs⟩ _ rfl (by omega) (by simp; omega) (by simp; omega) (by rw [hnx]; simpa [show j = 0 by omega] using hQ)) nT0 (by exact .k rfl rfl <| .l rfl rfl rfl <| .l rfl rfl rfl <| .r rfl rfl <| .r rfl rfl <| .k rfl rfl <| .i rfl (by omega) .nil) (by exact .b rfl rfl (.same rfl) <| .b rfl rfl (.box2 (.row rfl) (.row rfl)) <| .s rfl rfl (fun h => by cases h) rfl (leTr rfl (.rx (fun _ => rfl) (by simp only [leafT, Tr.ps]; rw [List.drop_take]; congr 1; omega)) .emp .emp .emp) <| .x rfl rfl rfl (fun _ => rfl) <| .r rfl rfl (fun _ => rfl) .nil)
        · rw [if_neg (by omega), leafAt_end (by omega)] at hQ
          refine .nil <| .seq <| .condF rfl <| .exit rfl <| .seq <| .reg <| .aE rfl rfl rfl rfl <| .stA rfl rfl rfl rfl rfl rfl <| .nil <| .ret rfl hQ (.agg2 (.ox (by simp) (by first | exact fun _ => rfl | exact fun h => by cases h)) (.ox (by simp) (by first | exact fun _ => rfl | exact fun h => by cases h))) LeBs.refl
    refine RA.freshT 3 0 5 nT0 rfl rfl rfl (RA.freshT 3 1 1 nT0 rfl rfl rfl ?_)
    rw [show leavesOf ps = leafAt ps 0 by unfold leavesOf; rw [if_neg (by omega)]; rfl] at hQ
    exact RA.ws [_, _, _, _, _] (L0 _ 0 ⟨[], []⟩ _ rfl (Nat.zero_le _) (Nat.le_refl _) (Nat.le_refl _) (by rw [if_pos (by omega)]; exact hQ)) nT0 (by exact .k rfl rfl <| .l rfl rfl rfl <| .l rfl rfl rfl <| .r rfl rfl <| .r rfl rfl <| .i rfl (by rw [partsL_len]) <| .k rfl rfl .nil) (by exact .b rfl rfl (.same rfl) <| .b rfl rfl (.box2 (.row rfl) (.row rfl)) <| .x rfl rfl rfl (fun h => by cases h) <| .x rfl rfl rfl (fun _ => rfl) <| .r rfl rfl (fun _ => rfl) .nil)
theorem i_put (m x : Mn) (i : Nat) (h1 : i < m.ts.length) (h2 : m.cs.length + 1 = m.ts.length) (h3 : m.ts.length + x.ts.length ≤ 1000000) (h4 : m.cs.length + x.cs.length ≤ 1000000) : RF Y 112 [.agg (Mn.e m), i64 i, .agg (Mn.e x)] (Mn.o (putM m i x)) [] := by
  refine RF.s3 rfl rfl rfl fun Q hQ => ?_
  refine .seq <| .reg <| .box rfl rfl rfl <| .box rfl rfl rfl <| .new rfl <| .nil <| .seq <| .regD <| .fa rfl rfl <| .ldE rfl rfl rfl rfl <| .mv rfl rfl <| .slF rfl rfl (by decide) rfl bnd_nat (by simp; omega) <| .fa rfl rfl <| .ldE rfl rfl rfl rfl <| .fa rfl rfl <| .ldE rfl rfl rfl rfl <| .mv rfl rfl <| .add rfl rfl rfl (by omega) <| .slF rfl rfl (by decide) bnd_nat rfl (by simp; omega) <| .rows (xs := [[_], [_], [_]]) (u := []) rfl rfl rfl rfl rfl rfl <| .cz rfl rfl rfl (Concat_Tree [m.ts.take i, x.ts, m.ts.drop (i + 1)] (by simp; omega) (by simp)) (.c (.fz (.ey (by simp [TrL, List.map_take, List.map_drop, List.take_of_length_le]) (fun h => by cases h))) .n) rfl rfl rfl (by decide) <| .fa rfl rfl <| .ldE rfl rfl rfl rfl <| .mv rfl rfl <| .slF rfl rfl (by decide) rfl bnd_nat (by simp; omega) <| .fa rfl rfl <| .ldE rfl rfl rfl rfl <| .fa rfl rfl <| .ldE rfl rfl rfl rfl <| .mv rfl rfl <| .slF rfl rfl (by decide) bnd_nat rfl (by simp; omega) <| .rows (xs := [[_], [_], [_]]) (u := []) rfl rfl rfl rfl rfl rfl <| .c rfl rfl rfl (Concat_int [m.cs.take i, x.cs, m.cs.drop i] (by simp; omega) (by simp)) (.c (.fz (.ey (by simp [IcL, List.map_take, List.map_drop, List.take_of_length_le]) (fun h => by cases h))) .n) rfl rfl rfl (by decide) <| .build (cs := [_, _]) rfl rfl rfl <| .stA rfl rfl rfl rfl rfl rfl <| .nil (by kernel_rfl) <| .ret rfl hQ (.agg2 (.ox (by simp [putM]) (by first | exact fun _ => rfl | exact fun h => by cases h)) (.ox (by simp [putM]) (by first | exact fun _ => rfl | exact fun h => by cases h))) LeBs.refl
end Go.Proofs.YtjjocahgbmibeaaGreat
