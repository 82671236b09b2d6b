/- The laws FnBuilt and FnInjected: their walks. -/
import Derived.Test.YtjjocahgbmibeaaGreatW17
namespace Go.Proofs.YtjjocahgbmibeaaGreat
open Go.Eng
set_option maxRecDepth 4000
set_option linter.unusedSimpArgs false
set_option linter.unusedVariables false
theorem inj_step {t : Tr} {m : Ms} (ht : treeOk t = true) (hm : m.ok = true) (hq : t.q ≤ 250) : tmap (inject t m) = mapDo (tmap t) m := by
  by_cases h4 : m.op = 4
  · have e1 : inject t m = t := by unfold inject; rw [if_neg (fun q => q.2.2 h4)]
    have e2 : mapDo (tmap t) m = tmap t := by
      unfold mapDo
      split
      · rw [if_neg (by omega), if_neg (by omega), if_neg (by omega)]
      · rfl
    rw [e1, e2]
  · exact (inject_map ht hm h4 hq).2.1
theorem new_one : tmap (inject (.mk true [] [] [] []) ⟨1, 1, 1⟩) = [⟨1, 1⟩] := by
  rw [(inject_map (t := .mk true [] [] [] []) (m := ⟨1, 1, 1⟩) (by decide) (by decide) (by decide) (by decide)).2.1]
  decide
theorem i_MapDo (ps : List Pr) (m : Ms) (h : ps.length < 1000000) : RF Y 13 [.fro true 2 (ps.map Pr.c), .agg (Ms.c m)] (.own true 2 0 ((mapDo ps m).map Pr.c)) [] := by
  refine RF.s2 rfl rfl rfl fun Q hQ => ?_
  refine .seq <| .reg <| .box rfl rfl rfl <| .mv rfl rfl <| .nil <| .seq <| .reg <| .mv rfl rfl <| .c rfl rfl rfl (Clone_Pair ps (by omega)) .refl rfl rfl rfl (by decide) <| .mv rfl rfl <| .nil <| .seq <| .seq <| .reg <| .mv rfl rfl <| .c rfl rfl rfl (i_MapOk ps (by omega)) .refl rfl rfl rfl (by decide) <| .bB (fun h1 => ?_) (fun h1 => ?_)
  · refine .notT rfl rfl <| .mv rfl rfl <| .g rfl rfl <| .aE rfl rfl rfl rfl <| .g rfl rfl <| .c rfl rfl rfl (i_MsgOk m) .refl rfl rfl rfl (by decide) <| .bB (fun h2 => ?_) (fun h2 => ?_)
    · refine .g rfl rfl <| .notT rfl rfl <| .pickF rfl rfl rfl <| .nil <| .condF rfl <| .skip <| .seq <| .reg <| .mv rfl rfl <| .aE rfl rfl rfl rfl <| .cM rfl rfl rfl (i_changed ps m h h1 h2) (.c .r (.c .r .n)) rfl rfl (by decide) <| .mv rfl rfl <| .nil <| .ret rfl hQ (.rw (by first | exact fun _ => rfl | exact fun h => by cases h)) LeBs.refl
    · rw [mapDo_bad ps h2] at hQ
      refine .g rfl rfl <| .notF rfl rfl <| .pickF rfl rfl rfl <| .nil <| .condT rfl <| .seq <| .reg <| .mv rfl rfl <| .mv rfl rfl <| .nil <| .ret rfl hQ (.rw (by first | exact fun _ => rfl | exact fun h => by cases h)) LeBs.refl
  · rw [show mapDo ps m = ps by simp [mapDo, h1]] at hQ
    refine .notF rfl rfl <| .mv rfl rfl <| .gs rfl rfl rfl <| .gs rfl rfl rfl <| .gs rfl rfl rfl <| .pickT rfl rfl rfl <| .nil <| .condT rfl <| .seq <| .reg <| .mv rfl rfl <| .mv rfl rfl <| .nil <| .ret rfl hQ (.rw (by first | exact fun _ => rfl | exact fun h => by cases h)) LeBs.refl
theorem s_DrawWritten_x (code : List UInt8) (h : code.length ≤ 1048576) : RFx Y 9 [.fro true 1 (code.map Bc)] (fun r o => ∃ (l : List Ms), r = .own true 3 0 (l.map Ms.c) ∧ o = [] ∧ l.length ≤ 120 ∧ ∀ x, x ∈ l → x.ok = true) := by
  refine RFx.s1 rfl rfl rfl ?_
  refine .seq <| .reg <| .mv rfl rfl <| .nil <| .seq <| .reg <| .mv rfl rfl <| ?_
  obtain ⟨c1, ⟨hc1, hb1⟩, R1⟩ := s_l1New code h
  refine .cz rfl rfl rfl (R1) .refl rfl rfl rfl (by decide) <| .mv rfl rfl <| .nil <| .seq <| .reg <| .row0 rfl rfl rfl <| .mv rfl rfl <| .nil <| .seq <| .reg <| .mv rfl rfl <| .c rfl rfl rfl (s_l1Long code 30 120 h (by decide)) .refl rfl rfl rfl (by decide) <| .mv rfl rfl <| .nil <| .seq <| .seq <| .reg <| .mv rfl rfl <| .nil <| .block <| ?_
  refine RA.loopI fun T0 hT0 nT0 eT0 => ?_
  have L0 : ∀ (f i : Nat) (d : Cu) (out : List Ms) (Q : Qst), (i : Int) + f = min (30 + (code.length / 4 : Nat)) 120 → d.ok → out.length ≤ i → (∀ x, x ∈ out → x.ok = true) → (∀ l' : List Ms, l'.length ≤ 120 → (∀ x, x ∈ l' → x.ok = true) → Q (.own true 3 0 (l'.map Ms.c)) []) →
      RA Y a9 T0 [(3, .elt 0 0 0), (4, .row 1), (5, i64 (min (30 + (code.length / 4 : Nat)) 120)), (6, i64 i)] [(0, .box (Cu.c d)), (1, .row true 3 0 (out.map Ms.c))] 2 Q := by
    intro f
    induction f using Nat.strongRecOn with
    | _ f IH =>
      intro i d out Q hi hd ho hms hQ
      rw [eT0]
      refine .seq <| .seq <| .reg <| .mv rfl rfl <| .mv rfl rfl <| .lss rfl rfl rfl (fun h1 => ?_) (fun h1 => ?_)
      · refine .nil <| .condT rfl <| .skip <| .seq <| .block <| .reg <| .mv rfl rfl <| .mv rfl rfl <| ?_
        obtain ⟨m, d1, ⟨hm, hd1, hdb1⟩, R1⟩ := s_l1DrawMsg d hd
        refine .cPz rfl rfl rfl R1 .refl rfl rfl rfl (by decide) <| .row1P rfl rfl rfl rfl rfl rfl rfl rfl <| .ap rfl rfl rfl rfl rfl (by simp; omega) (by decide) <| .mv rfl rfl <| .nil <| .inBlock <| .reg <| .mv rfl rfl <| .add rfl rfl rfl (by omega) <| .mv rfl rfl <| .nil <| hT0 <| ?_
        exact RA.ws [_, _] (IH (f - 1) (by omega) (i + 1) d1 (out ++ [m]) _ (by omega) hd1 (by simp; omega) (fun x hx => by rcases List.mem_append.1 hx with q | q; exact hms x q; simp at q; subst q; exact hm) hQ) nT0 (by exact .l rfl rfl rfl <| .r rfl rfl <| .k rfl rfl <| .i rfl (by omega) .nil) (by exact .b rfl rfl (.same rfl) <| .r rfl rfl (fun _ => rfl) .nil)
      · refine .nil <| .condF rfl <| .exit rfl <| .seq <| .reg <| .mv rfl rfl <| .mv rfl rfl <| .nil <| .ret rfl (hQ out (by omega) hms) (.rw (by first | exact fun _ => rfl | exact fun h => by cases h)) LeBs.refl
  exact RA.ws [_, _] (L0 (min (30 + (code.length / 4 : Nat)) 120 : Int).toNat 0 c1 [] _ (by omega) hc1 (Nat.le_refl _) (fun x hx => by simp at hx) (fun l' q1 q2 => ⟨l', rfl, rfl, q1, q2⟩)) nT0 (by exact .l rfl rfl rfl <| .r rfl rfl <| .k rfl rfl <| .k rfl rfl .nil) (by exact .b rfl rfl (.same rfl) <| .x rfl rfl rfl (fun _ => rfl) .nil)
theorem s_DrawWritten (code : List UInt8) (h : code.length ≤ 1048576) : ∃ (l : List Ms), (l.length ≤ 120 ∧ ∀ x, x ∈ l → x.ok = true) ∧ RF Y 9 [.fro true 1 (code.map Bc)] (.own true 3 0 (l.map Ms.c)) [] := by
  obtain ⟨r, o, ⟨l, rfl, rfl, hp⟩, hr⟩ := s_DrawWritten_x code h
  exact ⟨l, hp, hr⟩
theorem l_FnInjected (code : List UInt8) : RF Y 3 [.fro true 1 (code.map Bc)] (.b true) [] := by
  refine RF.s1 rfl rfl rfl fun Q hQ => ?_
  have hUM := i_TreeMap (inject (.mk true [] [] [] []) ⟨1, 1, 1⟩) (by decide)
  rw [new_one] at hUM
  refine .seq <| .reg <| .mv rfl rfl <| .nil <| .seq <| .seq <| .reg <| .mv rfl rfl <| .c rfl rfl rfl (l_big code) .refl rfl rfl rfl (by decide) <| .bB (fun h1 => ?_) (fun h1 => ?_)
  · refine .nil <| .condT rfl <| .seq <| .reg <| .mv rfl rfl <| .nil <| .ret rfl hQ .r LeBs.refl
  · have hlen : code.length ≤ 1048576 := by simp at h1; omega
    refine .nil <| .condF rfl <| .skip <| .seq <| .reg <| .mv rfl rfl <| ?_
    obtain ⟨l, ⟨hl, hok⟩, R1⟩ := s_DrawWritten code hlen
    refine .c rfl rfl rfl R1 .refl rfl rfl rfl (by decide) <| .mv rfl rfl <| .nil <| .seq <| .reg <| .cz rfl rfl rfl (i_TreeNew) .refl rfl rfl rfl (by decide) <| .new rfl <| .stA rfl rfl rfl rfl rfl rfl <| .nil <| .seq <| .reg <| .row0 rfl rfl rfl <| .mv rfl rfl <| .nil <| .seq <| .seq <| .reg <| .mv rfl rfl <| .nil <| .block <| ?_
    refine RA.loopI fun T0 hT0 nT0 eT0 => ?_
    have L0 : ∀ (post pre : List Ms) (t : Tr) (Q : Qst), l = pre ++ post → treeOk t = true → t.w ≤ 1 + 2 * pre.length → t.q ≤ 2 + pre.length → Q (.b true) [] → RA Y a3 T0 [(3, .row 0), (4, .elt 1 0 0), (5, .row 6), (6, i64 pre.length)] [(0, .row true 3 0 (l.map Ms.c)), (1, .box [.b t.leaf, .row 2, .row 3, .row 4, .row 5]), (2, .row true 2 0 (t.ps.map Pr.c)), (3, .row true 1 0 (t.cs.map Ic)), (4, .row false 5 0 (t.ks.map Tr.e)), (5, .row true 3 0 (t.bs.map Ms.c)), (6, .row true 2 0 ((tmap t).map Pr.c))] 7 Q := by
      intro post
      induction post with
      | nil =>
        intro pre t Q hc ht hw hq hQ
        have hl : l.length = pre.length := by simp [hc]
        have hts := ok_sz ht
        have htl := tmap_len t
        rw [eT0]
        refine .seq <| .seq <| .reg <| .mv rfl rfl <| .mv rfl rfl <| .len rfl rfl rfl <| .lssF rfl rfl rfl (by omega) <| .nil <| .condF rfl <| .exit rfl <| .seq <| .reg <| .cz rfl rfl rfl (s_TreeNew) .refl rfl rfl rfl (by decide) <| .build (cs := [_, _, _]) rfl rfl rfl <| .cz rfl rfl rfl (s_Inject (.mk true [] [] [] []) ⟨1, 1, 1⟩ (by decide) (fun _ => by decide)) (.c (.trF _) (.c .r .n)) rfl rfl rfl (by decide) <| .new rfl <| .stA rfl rfl rfl rfl rfl rfl <| .nil <| .seq <| .reg <| .aE rfl rfl rfl rfl <| .c rfl rfl rfl (i_TreeOk t (by omega)) (.c (.trF _) .n) rfl rfl rfl (by decide) <| .bB (fun h3 => ?_) (fun h3 => ?_)
        · refine .mv rfl rfl <| .g rfl rfl <| .aE rfl rfl rfl rfl <| .g rfl rfl <| .c rfl rfl rfl (i_TreeMap t (by omega)) (.c (.trF _) .n) rfl rfl rfl (by decide) <| .g rfl rfl <| .mv rfl rfl <| .g rfl rfl <| .c rfl rfl rfl (l_samePairs (tmap t) (by omega)) (.c (.fz (.rw (fun h => h))) (.c (.fz (.rw (fun h => h))) .n)) rfl rfl rfl (by decide) <| .bB (fun h4 => ?_) (fun h4 => ?_)
          · refine .pickT rfl rfl rfl <| .mv rfl rfl <| .g rfl rfl <| .aE rfl rfl rfl rfl <| .g rfl rfl <| .c rfl rfl rfl (hUM) (.c (.trF _) .n) rfl rfl rfl (by decide) <| .g rfl rfl <| .build (cs := [_, _]) rfl rfl rfl <| .g rfl rfl <| .row1P rfl rfl rfl rfl rfl rfl rfl rfl <| .g rfl rfl <| .c rfl rfl rfl (l_samePairs [⟨1, 1⟩] (by decide)) (.c (.fz (.rw (fun h => h))) (.c (.fz (.rw (fun h => h))) .n)) rfl rfl rfl (by decide) <| .pickT rfl rfl rfl <| .mv rfl rfl <| .nil <| .ret rfl hQ .r LeBs.refl
          · cases h4
        · exact absurd ht (by simp [h3])
      | cons a post ih =>
        intro pre t Q hc ht hw hq hQ
        have hl : l.length = pre.length + post.length + 1 := by simp [hc]; omega
        have ha : l[pre.length]? = some a := by simp [hc]
        have hac : (l.map Ms.c)[pre.length]? = some (Ms.c a) := by rw [List.getElem?_map, ha]; rfl
        have hts := ok_sz ht
        have htl := tmap_len t
        obtain ⟨hk1, hk0⟩ := inject_ok a ht
        have hk2 := inj_step ht (hok a (by simp [hc])) (by omega)
        have hk3 := inject_q a ht (by omega)
        have hks := ok_sz hk1
        have hkl := tmap_len (inject t a)
        rw [eT0]
        refine .seq <| .seq <| .reg <| .mv rfl rfl <| .mv rfl rfl <| .len rfl rfl rfl <| .lssT rfl rfl rfl (by omega) <| .nil <| .condT rfl <| .skip <| .seq <| .block <| .seq <| .seq <| .reg <| .aE rfl rfl rfl rfl <| .c rfl rfl rfl (i_TreeDepth t (by omega)) (.c (.trF _) .n) rfl rfl rfl (by decide) <| .gtr rfl rfl rfl (fun h3 => ?_) (fun h3 => ?_)
        · refine .nil <| .condT rfl <| .exit rfl <| .seq <| .reg <| .cz rfl rfl rfl (s_TreeNew) .refl rfl rfl rfl (by decide) <| .build (cs := [_, _, _]) rfl rfl rfl <| .cz rfl rfl rfl (s_Inject (.mk true [] [] [] []) ⟨1, 1, 1⟩ (by decide) (fun _ => by decide)) (.c (.trF _) (.c .r .n)) rfl rfl rfl (by decide) <| .new rfl <| .stA rfl rfl rfl rfl rfl rfl <| .nil <| .seq <| .reg <| .aE rfl rfl rfl rfl <| .c rfl rfl rfl (i_TreeOk t (by omega)) (.c (.trF _) .n) rfl rfl rfl (by decide) <| .bB (fun h4 => ?_) (fun h4 => ?_)
          · refine .mv rfl rfl <| .g rfl rfl <| .aE rfl rfl rfl rfl <| .g rfl rfl <| .c rfl rfl rfl (i_TreeMap t (by omega)) (.c (.trF _) .n) rfl rfl rfl (by decide) <| .g rfl rfl <| .mv rfl rfl <| .g rfl rfl <| .c rfl rfl rfl (l_samePairs (tmap t) (by omega)) (.c (.fz (.rw (fun h => h))) (.c (.fz (.rw (fun h => h))) .n)) rfl rfl rfl (by decide) <| .bB (fun h5 => ?_) (fun h5 => ?_)
            · refine .pickT rfl rfl rfl <| .mv rfl rfl <| .g rfl rfl <| .aE rfl rfl rfl rfl <| .g rfl rfl <| .c rfl rfl rfl (hUM) (.c (.trF _) .n) rfl rfl rfl (by decide) <| .g rfl rfl <| .build (cs := [_, _]) rfl rfl rfl <| .g rfl rfl <| .row1P rfl rfl rfl rfl rfl rfl rfl rfl <| .g rfl rfl <| .c rfl rfl rfl (l_samePairs [⟨1, 1⟩] (by decide)) (.c (.fz (.rw (fun h => h))) (.c (.fz (.rw (fun h => h))) .n)) rfl rfl rfl (by decide) <| .pickT rfl rfl rfl <| .mv rfl rfl <| .nil <| .ret rfl hQ .r LeBs.refl
            · cases h5
          · exact absurd ht (by simp [h4])
        · refine .nil <| .condF rfl <| .skip <| .seq <| .regD <| .aE rfl rfl rfl rfl <| .mv rfl rfl <| .mv rfl rfl <| .iaR rfl rfl rfl rfl (by first | assumption | (simp; omega)) <| .aR rfl rfl rfl (by assumption) rfl <| .cz rfl rfl rfl (i_Inject t a (by omega) (fun _ => by omega)) (.c (.trF _) (.c .r .n)) rfl rfl rfl (by decide) <| .stA rfl rfl rfl rfl rfl rfl <| .nil (by kernel_rfl) <| .seq <| .reg <| .mv rfl rfl <| .mv rfl rfl <| .mv rfl rfl <| .iaR rfl rfl rfl rfl (by first | assumption | (simp; omega)) <| .aR rfl rfl rfl (by assumption) rfl <| .c rfl rfl rfl (i_MapDo (tmap t) a (by omega)) (.c (.fz (.rw (fun h => h))) (.c .r .n)) rfl rfl rfl (by decide) <| .mv rfl rfl <| .nil <| .seq <| .reg <| .mv rfl rfl <| .rem rfl rfl rfl (by first | decide | omega) <| .eql rfl rfl rfl (fun h6 => ?_) (fun h6 => ?_)
          · refine .mv rfl rfl <| .g rfl rfl <| .aE rfl rfl rfl rfl <| .g rfl rfl <| .c rfl rfl rfl (i_TreeMap (inject t a) (by omega)) (.c (.trF _) .n) rfl rfl rfl (by decide) <| .g rfl rfl <| .mv rfl rfl <| .g rfl rfl <| .c rfl rfl rfl (l_samePairs (tmap (inject t a)) (by omega)) (.c (.fz (.rw (fun h => h))) (.c (.fz (.ey (by rw [hk2]) (fun h => h))) .n)) rfl rfl rfl (by decide) <| .bB (fun h7 => ?_) (fun h7 => ?_)
            · refine .g rfl rfl <| .notT rfl rfl <| .pickT rfl rfl rfl <| .nil <| .condF rfl <| .skip <| .inBlock <| .reg <| .mv rfl rfl <| .add rfl rfl rfl (by omega) <| .mv rfl rfl <| .nil <| hT0 <| ?_
              exact RA.ws [_, _, _, _, _, _, _] (ih (pre ++ [a]) (inject t a) _ (by simp [hc]) hk1 (by simp; omega) (by simp; omega) hQ) nT0 (by exact .r rfl rfl <| .l rfl rfl rfl <| .r rfl rfl <| .i rfl (by simp) .nil) (by exact .r rfl rfl (fun _ => rfl) <| .b rfl rfl (.box5 (.v .refl rfl) (.row rfl) (.row rfl) (.row rfl) (.row rfl)) <| .r rfl rfl (fun _ => rfl) <| .r rfl rfl (fun _ => rfl) <| .r rfl rfl (fun h => by cases h) <| .r rfl rfl (fun _ => rfl) <| .x rfl rfl (by rw [hk2]) (fun _ => rfl) .nil)
            · cases h7
          · refine .mv rfl rfl <| .gs rfl rfl rfl <| .gs rfl rfl rfl <| .gs rfl rfl rfl <| .gs rfl rfl rfl <| .gs rfl rfl rfl <| .pickF rfl rfl rfl <| .nil <| .condF rfl <| .skip <| .inBlock <| .reg <| .mv rfl rfl <| .add rfl rfl rfl (by omega) <| .mv rfl rfl <| .nil <| hT0 <| ?_
            exact RA.ws [_, _, _, _, _, _, _] (ih (pre ++ [a]) (inject t a) _ (by simp [hc]) hk1 (by simp; omega) (by simp; omega) hQ) nT0 (by exact .r rfl rfl <| .l rfl rfl rfl <| .r rfl rfl <| .i rfl (by simp) .nil) (by exact .r rfl rfl (fun _ => rfl) <| .b rfl rfl (.box5 (.v .refl rfl) (.row rfl) (.row rfl) (.row rfl) (.row rfl)) <| .r rfl rfl (fun _ => rfl) <| .r rfl rfl (fun _ => rfl) <| .r rfl rfl (fun h => by cases h) <| .r rfl rfl (fun _ => rfl) <| .x rfl rfl (by rw [hk2]) (fun _ => rfl) .nil)
    exact RA.wr [_, _, _, _, _, _, _] (L0 l [] (.mk true [] [] [] []) _ rfl (by decide) (by decide) (by decide) hQ) nT0 (hm := by exact .r rfl rfl (fun _ => rfl) <| .b rfl rfl (.box5 (.v .refl rfl) (.row rfl) (.row rfl) (.row rfl) (.row rfl)) <| .r rfl rfl (fun _ => rfl) <| .r rfl rfl (fun _ => rfl) <| .r rfl rfl (fun h => by cases h) <| .r rfl rfl (fun _ => rfl) <| .x rfl rfl rfl (fun _ => rfl) .nil)
end Go.Proofs.YtjjocahgbmibeaaGreat
