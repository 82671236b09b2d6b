/- The laws FnBuilt and FnInjected: their walks. -/
import Derived.Test.YtjjocahgbmibeaaGreatW17
namespace Go.Proofs.YtjjocahgbmibeaaGreat
open Go.Eng
set_option maxRecDepth 4000
set_option linter.unusedSimpArgs false
set_option linter.unusedVariables false
theorem put_len (k v : Int) (ps : List Pr) : (put k v ps).length ≤ ps.length + 1 := by have := putGo_len k v ps false; unfold put; simpa using this
theorem s_l1DrawMap_x (c : Cu) (hc : c.ok) (n : Nat) (hn : n ≤ 1000) : RFx Y 71 [.obx (Cu.c c) 0, i64 n] (fun r o => ∃ (l : List Pr) (c' : Cu), r = .own true 2 0 (l.map Pr.c) ∧ o = [.obx (Cu.c c') 0] ∧ l.length ≤ n ∧ c'.ok ∧ c'.b = c.b) := by
  refine RFx.s2 rfl rfl rfl ?_
  refine .seq <| .reg <| .mv rfl rfl <| .nil <| .seq <| .reg <| .row0 rfl rfl rfl <| .mv rfl rfl <| .nil <| .seq <| .reg <| .mv rfl rfl <| .mv rfl rfl <| .add rfl rfl rfl (by omega) <| ?_
  obtain ⟨x1, c1, ⟨hx1, hy1, hz1, hc1, hb1⟩, R1⟩ := s_l1Below c hc ((n : Int) + 1) (by omega)
  have hy1 := hy1 (by omega)
  refine .cPz rfl rfl rfl R1 .refl rfl rfl rfl (by decide) <| .mv rfl rfl <| .nil <| .seq <| .seq <| .reg <| .mv rfl rfl <| .nil <| .block <| ?_
  refine RA.loopI fun T0 hT0 nT0 eT0 => ?_
  have L0 : ∀ (f i : Nat) (d : Cu) (out : List Pr) (Q : Qst), (i : Int) + f = x1 → d.ok → d.b = c.b → out.length ≤ i → (∀ (c' : Cu) (l' : List Pr), c'.ok → c'.b = c.b → l'.length ≤ n → Q (.own true 2 0 (l'.map Pr.c)) [.obx (Cu.c c') 0]) →
      RA Y a71 T0 [(0, .elt 0 0 0), (5, .row 1), (6, i64 x1), (7, i64 i)] [(0, .box (Cu.c d)), (1, .row true 2 0 (out.map Pr.c))] 2 Q := by
    intro f
    induction f using Nat.strongRecOn with
    | _ f IH =>
      intro i d out Q hi hd hdb ho hQ
      rw [eT0]
      refine .seq <| .seq <| .reg <| .mv rfl rfl <| .mv rfl rfl <| .lss rfl rfl rfl (fun h1 => ?_) (fun h1 => ?_)
      · refine .nil <| .condT rfl <| .skip <| .seq <| .block <| .reg <| .mv rfl rfl <| .mv rfl rfl <| ?_
        obtain ⟨x2, d1, ⟨hx2, hy2, hd1, hdb1⟩, R2⟩ := s_l1DrawKey d hd
        refine .cPz rfl rfl rfl R2 .refl rfl rfl rfl (by decide) <| .mv rfl rfl <| ?_
        obtain ⟨x3, d2, ⟨hx3, hy3, hz3, hd2, hdb2⟩, R3⟩ := s_l1Below d1 hd1 50 (by decide)
        refine .cPz rfl rfl rfl R3 .refl rfl rfl rfl (by decide) <| .sub rfl rfl rfl (by omega) <| .c rfl rfl rfl (s_l1Put out x2 (x3 - 9) (by omega)) (.c (.fz (.rw (fun h => h))) (.c .r (.c .r .n))) rfl rfl rfl (by decide) <| .mv rfl rfl <| .nil <| .inBlock <| .reg <| .mv rfl rfl <| .add rfl rfl rfl (by omega) <| .mv rfl rfl <| .nil <| hT0 <| ?_
        have hpl := put_len x2 (x3 - 9) out
        exact RA.ws [_, _] (IH (f - 1) (by omega) (i + 1) d2 (put x2 (x3 - 9) out) _ (by omega) hd2 (hdb2.trans (hdb1.trans hdb)) (by omega) hQ) nT0 (by exact .l rfl rfl rfl <| .r rfl rfl <| .k rfl rfl <| .i rfl (by omega) .nil) (by exact .b rfl rfl (.same rfl) <| .r rfl rfl (fun _ => rfl) .nil)
      · refine .nil <| .condF rfl <| .exit rfl <| .seq <| .reg <| .mv rfl rfl <| .mv rfl rfl <| .nil <| .ret rfl (hQ d out hd hdb (by omega)) (.rw (by first | exact fun _ => rfl | exact fun h => by cases h)) LeBs.refl
  exact RA.ws [_, _] (L0 x1.toNat 0 c1 [] _ (by omega) hc1 hb1 (Nat.le_refl _) (fun c' l' q1 q2 q3 => ⟨l', c', rfl, rfl, q3, q1, q2⟩)) nT0 (by exact .l rfl rfl rfl <| .r rfl rfl <| .k rfl rfl <| .k rfl rfl .nil) (by exact .b rfl rfl (.same rfl) <| .x rfl rfl rfl (fun _ => rfl) .nil)
theorem s_l1DrawMap (c : Cu) (hc : c.ok) (n : Nat) (hn : n ≤ 1000) : ∃ (l : List Pr) (c' : Cu), (l.length ≤ n ∧ c'.ok ∧ c'.b = c.b) ∧ RF Y 71 [.obx (Cu.c c) 0, i64 n] (.own true 2 0 (l.map Pr.c)) [.obx (Cu.c c') 0] := by
  obtain ⟨r, o, ⟨l, c', rfl, rfl, hp⟩, hr⟩ := s_l1DrawMap_x c hc n hn
  exact ⟨l, c', hp, hr⟩
theorem s_l1DrawBadMap_x (c : Cu) (hc : c.ok) : RFx Y 70 [.obx (Cu.c c) 0] (fun r o => ∃ (l : List Pr) (c' : Cu), r = .own true 2 0 (l.map Pr.c) ∧ o = [.obx (Cu.c c') 0] ∧ l.length ≤ 9 ∧ c'.ok ∧ c'.b = c.b) := by
  refine RFx.s1 rfl rfl rfl ?_
  refine .seq <| .reg <| .mv rfl rfl <| .nil <| .seq <| .reg <| .mv rfl rfl <| ?_
  obtain ⟨l, c1, ⟨hl, hc1, hb1⟩, R1⟩ := s_l1DrawMap c hc 8 (by decide)
  refine .cPz rfl rfl rfl R1 .refl rfl rfl rfl (by decide) <| .mv rfl rfl <| .nil <| .seq <| .seq <| .reg <| .mv rfl rfl <| ?_
  obtain ⟨x2, c2, ⟨hx2, hy2, hz2, hc2, hb2⟩, R2⟩ := s_l1Below c1 hc1 15 (by decide)
  refine .cPz rfl rfl rfl R2 .refl rfl rfl rfl (by decide) <| .nil <| .block <| .seq <| .reg <| .eql rfl rfl rfl (fun h1 => ?_) (fun h1 => ?_)
  · refine .mv rfl rfl <| .nil <| .condT rfl <| .reg <| .mv rfl rfl <| .mv rfl rfl <| ?_
    obtain ⟨x3, c3, ⟨hx3, hy3, hz3, hc3, hb3⟩, R3⟩ := s_l1Below c2 hc2 9 (by decide)
    refine .cPz rfl rfl rfl R3 .refl rfl rfl rfl (by decide) <| .build (cs := [_, _]) rfl rfl rfl <| .row1P rfl rfl rfl rfl rfl rfl rfl rfl <| .ap rfl rfl rfl rfl rfl (by simp; omega) (by decide) <| .mv rfl rfl <| .nil <| .inBlock <| .seq <| .reg <| .mv rfl rfl <| .mv rfl rfl <| .nil <| .ret rfl ⟨l ++ [⟨x3, 0⟩], c3, rfl, rfl, by simp; omega, hc3, by simp only [*]⟩ (by first | exact .rw (fun _ => rfl) | exact .ox (by simp; rfl) (fun _ => rfl)) LeBs.refl
  · refine .mv rfl rfl <| .nil <| .condF rfl <| .seq <| .reg <| .eql rfl rfl rfl (fun h2 => ?_) (fun h2 => ?_)
    · refine .mv rfl rfl <| .nil <| .condT rfl <| .reg <| .mv rfl rfl <| .mv rfl rfl <| .rows (xs := [[_], [_]]) (u := []) rfl rfl rfl rfl rfl rfl <| ?_
      obtain ⟨x3, c3, ⟨hx3, hc3, hb3⟩, R3⟩ := s_l1PickInt c2 hc2 [1000000000, 1000000001] (by simp)
      refine .cPz rfl rfl rfl R3 (.c .r (.c (.fz (.rw (fun h => h))) .n)) rfl rfl rfl (by decide) <| .build (cs := [_, _]) rfl rfl rfl <| .row1P rfl rfl rfl rfl rfl rfl rfl rfl <| .ap rfl rfl rfl rfl rfl (by simp; omega) (by decide) <| .mv rfl rfl <| .nil <| .inBlock <| .seq <| .reg <| .mv rfl rfl <| .mv rfl rfl <| .nil <| .ret rfl ⟨l ++ [⟨999, x3⟩], c3, rfl, rfl, by simp; omega, hc3, by simp only [*]⟩ (by first | exact .rw (fun _ => rfl) | exact .ox (by simp; rfl) (fun _ => rfl)) LeBs.refl
    · refine .mv rfl rfl <| .nil <| .condF rfl <| .skip <| .inBlock <| .seq <| .reg <| .mv rfl rfl <| .mv rfl rfl <| .nil <| .ret rfl ⟨l, c2, rfl, rfl, by omega, hc2, by simp only [*]⟩ (by first | exact .rw (fun _ => rfl) | exact .ox (by simp; rfl) (fun _ => rfl)) LeBs.refl
theorem s_l1DrawBadMap (c : Cu) (hc : c.ok) : ∃ (l : List Pr) (c' : Cu), (l.length ≤ 9 ∧ c'.ok ∧ c'.b = c.b) ∧ RF Y 70 [.obx (Cu.c c) 0] (.own true 2 0 (l.map Pr.c)) [.obx (Cu.c c') 0] := by
  obtain ⟨r, o, ⟨l, c', rfl, rfl, hp⟩, hr⟩ := s_l1DrawBadMap_x c hc
  exact ⟨l, c', hp, hr⟩
theorem s_DrawBuild_x (code : List UInt8) (h : code.length ≤ 1048576) : RFx Y 25 [.fro true 1 (code.map Bc)] (fun r o => ∃ (l : List Pr), r = .own true 2 0 (l.map Pr.c) ∧ o = [] ∧ l.length ≤ 40) := by
  refine RFx.s1 rfl rfl rfl ?_
  refine .seq <| .reg <| .mv rfl rfl <| .nil <| .seq <| .reg <| .mv rfl rfl <| ?_
  obtain ⟨c1, ⟨hc1, hb1⟩, R1⟩ := s_l1New code h
  refine .cz rfl rfl rfl (R1) .refl rfl rfl rfl (by decide) <| .mv rfl rfl <| .nil <| .seq <| .seq <| .reg <| .mv rfl rfl <| ?_
  obtain ⟨x2, c2, ⟨hc2, hb2⟩, R2⟩ := s_l1Once c1 hc1 4 (by decide)
  refine .cPz rfl rfl rfl R2 .refl rfl rfl rfl (by decide) <| .bB (fun h1 => ?_) (fun h1 => ?_)
  · refine .nil <| .condT rfl <| .seq <| .reg <| .mv rfl rfl <| ?_
    obtain ⟨l, c3, ⟨hl, hc3, hb3⟩, R3⟩ := s_l1DrawBadMap c2 hc2
    refine .cPz rfl rfl rfl R3 .refl rfl rfl rfl (by decide) <| .mv rfl rfl <| .nil <| .ret rfl ⟨l, rfl, rfl, by omega⟩ (.rw (by first | exact fun _ => rfl | exact fun h => by cases h)) LeBs.refl
  · refine .nil <| .condF rfl <| .skip <| .seq <| .reg <| .mv rfl rfl <| ?_
    obtain ⟨l, c3, ⟨hl, hc3, hb3⟩, R3⟩ := s_l1DrawMap c2 hc2 40 (by decide)
    refine .cPz rfl rfl rfl R3 .refl rfl rfl rfl (by decide) <| .mv rfl rfl <| .nil <| .ret rfl ⟨l, rfl, rfl, by omega⟩ (.rw (by first | exact fun _ => rfl | exact fun h => by cases h)) LeBs.refl
theorem s_DrawBuild (code : List UInt8) (h : code.length ≤ 1048576) : ∃ (l : List Pr), (l.length ≤ 40) ∧ RF Y 25 [.fro true 1 (code.map Bc)] (.own true 2 0 (l.map Pr.c)) [] := by
  obtain ⟨r, o, ⟨l, rfl, rfl, hp⟩, hr⟩ := s_DrawBuild_x code h
  exact ⟨l, hp, hr⟩
theorem l_FnBuilt (code : List UInt8) : RF Y 5 [.fro true 1 (code.map Bc)] (.b true) [] := by
  refine RF.s1 rfl rfl rfl fun Q hQ => ?_
  refine .seq <| .reg <| .mv rfl rfl <| .nil <| .seq <| .seq <| .reg <| .mv rfl rfl <| .c rfl rfl rfl (l_big code) .refl rfl rfl rfl (by decide) <| .bB (fun h1 => ?_) (fun h1 => ?_)
  · refine .nil <| .condT rfl <| .seq <| .reg <| .mv rfl rfl <| .nil <| .ret rfl hQ .r LeBs.refl
  · have hlen : code.length ≤ 1048576 := by simp at h1; omega
    refine .nil <| .condF rfl <| .skip <| .seq <| .reg <| .mv rfl rfl <| ?_
    obtain ⟨l, hl, R1⟩ := s_DrawBuild code hlen
    refine .c rfl rfl rfl R1 .refl rfl rfl rfl (by decide) <| .mv rfl rfl <| .nil <| .seq <| .reg <| .mv rfl rfl <| .cz rfl rfl rfl (i_Build l (by omega)) (.c (.fz (.rw (fun h => h))) .n) rfl rfl rfl (by decide) <| .mv rfl rfl <| .ex rfl rfl rfl <| .ex rfl rfl rfl <| .bB (fun h2 => ?_) (fun h2 => ?_)
    · obtain ⟨hb1, hb2⟩ := bfold_ok l 200 (by omega)
      have hb3 := ok_sz hb1
      have hbl : mapT (bfold l) = l := by
        unfold built at h2
        simp only [Bool.and_eq_true, decide_eq_true_eq] at h2
        exact h2.2
      have htl : tmap (bfold l) = l := by rw [tmap, if_pos hb1, hbl]
      have hin : In 0 1000 l := by have := tmap_in (bfold l); rwa [htl] at this
      have hgm : ∀ k, 0 ≤ k ∧ k ≤ 999 → tget (bfold l) k = mapGet k l := fun k hk => by rw [tget_map _ hk, htl]
      have hTM := i_TreeMap (bfold l) (by omega)
      have hR1 := i_TreeRange (bfold l) 0 12 (by omega)
      have hR2 := i_TreeRange (bfold l) 12 1000 (by omega)
      rw [htl] at hTM hR1 hR2
      have hr1 := inR_len 0 12 l
      have hr2 := inR_len 12 1000 l
      have hcat : inR 0 12 l ++ inR 12 1000 l = l := by rw [inR_cat (by decide) (by decide) hin.1, inR_all hin]
      have hbt : builtT l = bfold l := by rw [builtT, if_pos h2]
      refine .new rfl <| .stA rfl rfl rfl rfl rfl rfl <| .mv rfl rfl <| .nil <| .seq <| .reg <| .mv rfl rfl <| .cz rfl rfl rfl (s_Build l (by omega)) .refl rfl rfl rfl (by decide) <| .mv rfl rfl <| .ex rfl rfl rfl <| .ex rfl rfl rfl <| .new rfl <| .stA rfl rfl rfl rfl rfl rfl <| .mv rfl rfl <| .nil <| .seq <| .seq <| .reg <| .mv rfl rfl <| .mv rfl rfl <| .bne rfl rfl rfl <| .bB (fun h3 => ?_) (fun h3 => ?_)
      · rw [h2] at h3; simp at h3
      · refine .nil <| .condF rfl <| .skip <| .seq <| .seq <| .reg <| .mv rfl rfl <| .notT rfl rfl <| .nil <| .condF rfl <| .skip <| .seq <| .seq <| .reg <| .mv rfl rfl <| .nil <| .block <| ?_
        refine RA.loopI fun T0 hT0 nT0 eT0 => ?_
        have L0 : ∀ (f : Nat) (k : Int) (Q : Qst), k + f = 31 → 0 ≤ k → Q (.b true) [] →
            RA Y a5 T0 [(3, .row 0), (4, .elt 1 0 0), (8, i64 k)] [(0, .frow true 2 (l.map Pr.c)), (1, .box [.b (bfold l).leaf, .row 2, .row 3, .row 4, .row 5]), (2, .row true 2 0 ((bfold l).ps.map Pr.c)), (3, .row true 1 0 ((bfold l).cs.map Ic)), (4, .row false 5 0 ((bfold l).ks.map Tr.e)), (5, .row true 3 0 ((bfold l).bs.map Ms.c))] 6 Q := by
          intro f
          induction f using Nat.strongRecOn with
          | _ f IH =>
            intro k Q hf hk hQ
            rw [eT0]
            refine .seq <| .seq <| .reg <| .mv rfl rfl <| .lss rfl rfl rfl (fun h4 => ?_) (fun h4 => ?_)
            · refine .nil <| .condT rfl <| .skip <| .seq <| .block <| .seq <| .reg <| .aE rfl rfl rfl rfl <| .mv rfl rfl <| .c rfl rfl rfl (i_TreeGet (bfold l) k (by omega)) (.c (.trF _) (.c .r .n)) rfl rfl rfl (by decide) <| .mv rfl rfl <| .ex rfl rfl rfl <| .ex rfl rfl rfl <| .mv rfl rfl <| .mv rfl rfl <| .nil <| .seq <| .reg <| .mv rfl rfl <| .mv rfl rfl <| .c rfl rfl rfl (i_MapGet l k (by omega)) .refl rfl rfl rfl (by decide) <| .mv rfl rfl <| .ex rfl rfl rfl <| .ex rfl rfl rfl <| .mv rfl rfl <| .mv rfl rfl <| .nil <| .seq <| .reg <| .mv rfl rfl <| .mv rfl rfl <| .neq rfl rfl rfl (fun h5 => ?_) (fun h5 => ?_)
              · exact absurd (by rw [hgm k (by omega)]) h5
              · refine .mv rfl rfl <| .g rfl rfl <| .mv rfl rfl <| .g rfl rfl <| .mv rfl rfl <| .g rfl rfl <| .bne rfl rfl rfl <| .bB (fun h6 => ?_) (fun h6 => ?_)
                · rw [hgm k (by omega)] at h6; simp at h6
                · refine .pickF rfl rfl rfl <| .nil <| .condF rfl <| .skip <| .inBlock <| .reg <| .mv rfl rfl <| .add rfl rfl rfl (by omega) <| .mv rfl rfl <| .nil <| hT0 <| ?_
                  exact RA.ws [_, _, _, _, _, _] (IH (f - 1) (by omega) (k + 1) _ (by omega) (by omega) hQ) nT0 (by exact .r rfl rfl <| .l rfl rfl rfl <| .k rfl rfl .nil) (by exact .c rfl rfl (.frow .refl) <| .b rfl rfl (.box5 (.v .refl rfl) (.row rfl) (.row rfl) (.row rfl) (.row rfl)) <| .r rfl rfl (fun _ => rfl) <| .r rfl rfl (fun _ => rfl) <| .r rfl rfl (fun h => by cases h) <| .r rfl rfl (fun _ => rfl) .nil)
            · refine .nil <| .condF rfl <| .exit rfl <| .seq <| .regD <| .aE rfl rfl rfl rfl <| .c rfl rfl rfl (hTM) (.c (.trF _) .n) rfl rfl rfl (by decide) <| .mv rfl rfl <| .c rfl rfl rfl (l_samePairs l (by omega)) (.c (.fz (.rw (fun h => h))) (.c .r .n)) rfl rfl rfl (by decide) <| .bB (fun h7 => ?_) (fun h7 => ?_)
              · refine .mv rfl rfl <| .g rfl rfl <| .aE rfl rfl rfl rfl <| .g rfl rfl <| .c rfl rfl rfl (hR1) (.c (.trF _) (.c .r (.c .r .n))) rfl rfl rfl (by decide) <| .g rfl rfl <| .aE rfl rfl rfl rfl <| .g rfl rfl <| .c rfl rfl rfl (hR2) (.c (.trF _) (.c .r (.c .r .n))) rfl rfl rfl (by decide) <| .g rfl rfl <| .ap rfl rfl rfl rfl rfl (by simp; omega) (by decide) <| .g rfl rfl <| .mv rfl rfl <| .g rfl rfl <| .c rfl rfl rfl (l_samePairs l (by omega)) (.c (.fz (.rx (fun h => h) hcat)) (.c .r .n)) rfl rfl rfl (by decide) <| .pickT rfl rfl rfl <| .mv rfl rfl <| .nil (by kernel_rfl) <| .ret rfl hQ .r LeBs.refl
              · cases h7
        rw [hbt]
        exact RA.ws [_, _, _, _, _, _] (L0 31 0 _ (by decide) (by decide) hQ) nT0 (by exact .r rfl rfl <| .l rfl rfl rfl <| .k rfl rfl .nil) (by exact .c rfl rfl (.frow .refl) <| .b rfl rfl (.box5 (.v .refl rfl) (.row rfl) (.row rfl) (.row rfl) (.row rfl)) <| .r rfl rfl (fun _ => rfl) <| .r rfl rfl (fun _ => rfl) <| .r rfl rfl (fun h => by cases h) <| .r rfl rfl (fun _ => rfl) .nil)
    · have hbt : builtT l = .mk false [] [] [] [] := by rw [builtT, h2]; rfl
      have hbk : (builtT l).ks = [] := by rw [hbt]; rfl
      refine .new rfl <| .stA rfl rfl rfl rfl rfl rfl <| .mv rfl rfl <| .nil <| .seq <| .reg <| .mv rfl rfl <| .cz rfl rfl rfl (s_Build l (by omega)) .refl rfl rfl rfl (by decide) <| .mv rfl rfl <| .ex rfl rfl rfl <| .ex rfl rfl rfl <| .new rfl <| .stA rfl rfl rfl rfl rfl rfl <| .mv rfl rfl <| .nil <| .seq <| .seq <| .reg <| .mv rfl rfl <| .mv rfl rfl <| .bne rfl rfl rfl <| .bB (fun h8 => ?_) (fun h8 => ?_)
      · rw [h2] at h8; simp at h8
      · refine .nil <| .condF rfl <| .skip <| .seq <| .seq <| .reg <| .mv rfl rfl <| .notF rfl rfl <| .nil <| .condT rfl <| .seq <| .reg <| .fa rfl rfl <| .ldE rfl rfl rfl rfl <| .len rfl rfl rfl <| .eql rfl rfl rfl (fun h9 => ?_) (fun h9 => ?_)
        · refine .mv rfl rfl <| .nil <| .ret rfl hQ .r LeBs.refl
        · exact absurd (by rw [hbk]; rfl) h9
end Go.Proofs.YtjjocahgbmibeaaGreat
