/- Walks: drawn plans and writes. -/
import Derived.Test.YtjjocahgbmibeaaW28
namespace Go.Proofs.Ytjjocahgbmibeaa
open Go.Eng
set_option maxRecDepth 4000
set_option linter.unusedSimpArgs false
set_option linter.unusedVariables false
theorem s_DrawPlan_x (code : List UInt8) (h : code.length ≤ 1048576) : RFx Y 130 [.fro true 1 (code.map Bc)] (fun r o => ∃ (d : Dk) (t : Tr), r = .tup [d.o, Tr.o t] ∧ o = [] ∧ d.B ∧ t.B) := by
  refine RFx.s1 rfl rfl rfl ?_
  refine .seq <| .reg <| .new rfl <| .new rfl <| .nil <| .seq <| .reg <| .mv rfl rfl <| ?_
  obtain ⟨c1, ⟨hc1, hb1⟩, R1⟩ := s_l1New code h
  refine .cz rfl rfl rfl (R1) .refl rfl rfl rfl (by decide) <| .mv rfl rfl <| .nil <| .seq <| .reg <| .mv rfl rfl <| .mv rfl rfl <| ?_
  obtain ⟨d, c2, ⟨hd, hc2, hb2⟩, R2⟩ := s_l6Draw c1 hc1 code h
  refine .cPz rfl rfl rfl R2 .refl rfl rfl rfl (by decide) <| .new rfl <| .stA rfl rfl rfl rfl rfl rfl <| .nil <| .seq <| .regD <| .aE rfl rfl rfl rfl <| .mv rfl rfl <| .mv rfl rfl <| ?_
  obtain ⟨t, c3, ⟨ht, hc3, hb3⟩, R3⟩ := s_l2Draw c2 hc2 code h
  refine .cPz rfl rfl rfl R3 .refl rfl rfl rfl (by decide) <| .stA rfl rfl rfl rfl rfl rfl <| .stA rfl rfl rfl rfl rfl rfl <| .nil (by kernel_rfl) <| .ret rfl ⟨d, t, rfl, rfl, hd, ht⟩ (.tup2 (.agg2 (by first | exact .rw (fun _ => rfl) | exact .ox (by rw [List.map_set]; rfl) (fun _ => rfl)) (by first | exact .rw (fun _ => rfl) | exact .ox (by rw [List.map_set]; rfl) (fun _ => rfl))) (.agg5 .r (.ox rfl (by first | exact fun _ => rfl | exact fun h => by cases h)) (.ox rfl (by first | exact fun _ => rfl | exact fun h => by cases h)) (.ox rfl (by first | exact fun _ => rfl | exact fun h => by cases h)) (.ox rfl (by first | exact fun _ => rfl | exact fun h => by cases h)))) LeBs.refl
theorem s_DrawPlan (code : List UInt8) (h : code.length ≤ 1048576) : ∃ (d : Dk) (t : Tr), (d.B ∧ t.B) ∧ RF Y 130 [.fro true 1 (code.map Bc)] (.tup [d.o, Tr.o t]) [] := by
  obtain ⟨r, o, ⟨d, t, rfl, rfl, hp⟩, hr⟩ := s_DrawPlan_x code h
  exact ⟨d, t, hp, hr⟩
theorem s_l6DrawWrites_x (code : List UInt8) (h : code.length ≤ 1048576) : RFx Y 81 [.fro true 1 (code.map Bc)] (fun r o => ∃ (d : Dk) (ls : List Wr), r = .tup [d.o, .own true 4 0 (ls.map Wr.c)] ∧ o = [] ∧ d.B ∧ Lok ls ∧ ls.length ≤ 30000) := by
  refine RFx.s1 rfl rfl rfl ?_
  refine .seq <| .reg <| .new rfl <| .mv rfl rfl <| .nil <| .seq <| .reg <| .mv rfl rfl <| ?_
  obtain ⟨d, t, ⟨hd, ht⟩, R0⟩ := s_DrawPlan code h
  have hts := ht.2.1
  refine .cz rfl rfl rfl (R0) .refl rfl rfl rfl (by decide) <| .mv rfl rfl <| .ex rfl rfl rfl <| .ex rfl rfl rfl <| .new rfl <| .new rfl <| .stA rfl rfl rfl rfl rfl rfl <| .stA rfl rfl rfl rfl rfl rfl <| .nil <| .seq <| .reg <| .aE rfl rfl rfl rfl <| .aE rfl rfl rfl rfl <| ?_
  obtain ⟨ls, ok, ⟨hls, hln⟩, R4⟩ := s_Plan d hd t (by omega)
  refine .c rfl rfl rfl R4 (.c .r (.c (.trF _) .n)) rfl rfl rfl (by decide) <| .mv rfl rfl <| .ex rfl rfl rfl <| .ex rfl rfl rfl <| .mv rfl rfl <| .mv rfl rfl <| .nil <| .seq <| .reg <| .mv rfl rfl <| ?_
  obtain ⟨c1, ⟨hc1, hb1⟩, R1⟩ := s_l1New code h
  refine .cz rfl rfl rfl (R1) .refl rfl rfl rfl (by decide) <| .mv rfl rfl <| .nil <| .seq <| .seq <| .reg <| .mv rfl rfl <| ?_
  obtain ⟨b2, c2, ⟨hc2, hb2⟩, R2⟩ := s_l1Once c1 hc1 9 (by decide)
  refine .cPz rfl rfl rfl R2 .refl rfl rfl rfl (by decide) <| .bB (fun h1 => ?_) (fun h1 => ?_)
  · refine .nil <| .condT rfl <| .reg <| .mv rfl rfl <| .mv rfl rfl <| .rows (xs := [[_], [_], [_], [_], [_]]) (u := []) rfl rfl rfl rfl rfl rfl <| ?_
    obtain ⟨x3, c3, ⟨hx3, hc3, hb3⟩, R3⟩ := s_l1PickInt c2 hc2 [-3, 200, 5, -2, -9223372036854775808] (by decide)
    refine .cPz rfl rfl rfl R3 (.c .r (.c (.fz (.rw (fun h => h))) .n)) rfl rfl rfl (by decide) <| .build (cs := [_, _, _, _]) rfl rfl rfl <| .row1P rfl rfl rfl rfl rfl rfl rfl rfl <| .ap rfl rfl rfl rfl rfl (by simp; omega) (by decide) <| .mv rfl rfl <| .nil <| .seq <| .reg <| .aE rfl rfl rfl rfl <| .mv rfl rfl <| .stA rfl rfl rfl rfl rfl rfl <| .mv rfl rfl <| .nil <| .ret rfl ⟨d, ls ++ [⟨x3, ⟨#[113]⟩, ⟨0, 0⟩⟩], rfl, rfl, hd, hls.snoc ⟨by show -9223372036854775808 ≤ x3; simp at hx3; omega, by show x3 ≤ 9223372036854775807; simp at hx3; omega, by show (1 : Nat) ≤ 1000000; decide⟩, by simp; omega⟩ (.tup2 (.agg2 (by first | exact .rw (fun _ => rfl) | exact .ox (by rw [List.map_set]; rfl) (fun _ => rfl)) (by first | exact .rw (fun _ => rfl) | exact .ox (by rw [List.map_set]; rfl) (fun _ => rfl))) (by first | exact .rw (fun _ => rfl) | exact .ox rfl (fun _ => rfl))) LeBs.refl
  · refine .nil <| .condF rfl <| .skip <| .seq <| .reg <| .aE rfl rfl rfl rfl <| .mv rfl rfl <| .stA rfl rfl rfl rfl rfl rfl <| .mv rfl rfl <| .nil <| .ret rfl ⟨d, ls, rfl, rfl, hd, hls, by omega⟩ (.tup2 (.agg2 (by first | exact .rw (fun _ => rfl) | exact .ox (by rw [List.map_set]; rfl) (fun _ => rfl)) (by first | exact .rw (fun _ => rfl) | exact .ox (by rw [List.map_set]; rfl) (fun _ => rfl))) (by first | exact .rw (fun _ => rfl) | exact .ox rfl (fun _ => rfl))) LeBs.refl
theorem s_l6DrawWrites (code : List UInt8) (h : code.length ≤ 1048576) : ∃ (d : Dk) (ls : List Wr), (d.B ∧ Lok ls ∧ ls.length ≤ 30000) ∧ RF Y 81 [.fro true 1 (code.map Bc)] (.tup [d.o, .own true 4 0 (ls.map Wr.c)]) [] := by
  obtain ⟨r, o, ⟨d, ls, rfl, rfl, hp⟩, hr⟩ := s_l6DrawWrites_x code h
  exact ⟨d, ls, hp, hr⟩
theorem s_DrawDo_x (code : List UInt8) (h : code.length ≤ 1048576) : RFx Y 34 [.fro true 1 (code.map Bc)] (fun r o => ∃ (d : Dk) (ls : List Wr), r = .tup [d.o, .own true 4 0 (ls.map Wr.c)] ∧ o = [] ∧ d.B ∧ Lok ls ∧ ls.length ≤ 30000) := by
  refine RFx.s1 rfl rfl rfl ?_
  refine .seq <| .reg <| .new rfl <| .mv rfl rfl <| .nil <| .seq <| .reg <| .mv rfl rfl <| ?_
  obtain ⟨d, ls, ⟨hd, hls, hln⟩, R0⟩ := s_l6DrawWrites code h
  refine .c rfl rfl rfl R0 .refl rfl rfl rfl (by decide) <| .mv rfl rfl <| .ex rfl rfl rfl <| .ex rfl rfl rfl <| .new rfl <| .stA rfl rfl rfl rfl rfl rfl <| .mv rfl rfl <| .nil <| .seq <| .reg <| .aE rfl rfl rfl rfl <| .mv rfl rfl <| .stA rfl rfl rfl rfl rfl rfl <| .mv rfl rfl <| .nil <| .ret rfl ⟨d, ls, rfl, rfl, hd, hls, hln⟩ (.tup2 (.agg2 (by first | exact .rw (fun _ => rfl) | exact .ox (by rw [List.map_set]; rfl) (fun _ => rfl)) (by first | exact .rw (fun _ => rfl) | exact .ox (by rw [List.map_set]; rfl) (fun _ => rfl))) (by first | exact .rw (fun _ => rfl) | exact .ox rfl (fun _ => rfl))) LeBs.refl
theorem s_DrawDo (code : List UInt8) (h : code.length ≤ 1048576) : ∃ (d : Dk) (ls : List Wr), (d.B ∧ Lok ls ∧ ls.length ≤ 30000) ∧ RF Y 34 [.fro true 1 (code.map Bc)] (.tup [d.o, .own true 4 0 (ls.map Wr.c)]) [] := by
  obtain ⟨r, o, ⟨d, ls, rfl, rfl, hp⟩, hr⟩ := s_DrawDo_x code h
  exact ⟨d, ls, hp, hr⟩
theorem s_DrawSome_x (code : List UInt8) (h : code.length ≤ 1048576) : RFx Y 37 [.fro true 1 (code.map Bc)] (fun r o => ∃ (d : Dk) (ls : List Wr) (w : List Bool), r = .tup [d.o, .own true 4 0 (ls.map Wr.c), .own true 1 0 (w.map Oc)] ∧ o = [] ∧ d.B ∧ Lok ls ∧ ls.length ≤ 30000 ∧ w.length ≤ 40000) := by
  refine RFx.s1 rfl rfl rfl ?_
  refine .seq <| .reg <| .new rfl <| .mv rfl rfl <| .mv rfl rfl <| .nil <| .seq <| .reg <| .mv rfl rfl <| ?_
  obtain ⟨d, ls, ⟨hd, hls, hln⟩, R0⟩ := s_l6DrawWrites code h
  refine .c rfl rfl rfl R0 .refl rfl rfl rfl (by decide) <| .mv rfl rfl <| .ex rfl rfl rfl <| .ex rfl rfl rfl <| .new rfl <| .stA rfl rfl rfl rfl rfl rfl <| .mv rfl rfl <| .nil <| .seq <| .reg <| .mv rfl rfl <| ?_
  obtain ⟨c1, ⟨hc1, hb1⟩, R1⟩ := s_l1New code h
  refine .cz rfl rfl rfl (R1) .refl rfl rfl rfl (by decide) <| .mv rfl rfl <| .nil <| .seq <| .reg <| .row0 rfl rfl rfl <| .mv rfl rfl <| .nil <| .seq <| .seq <| .reg <| .mv rfl rfl <| .nil <| .block <| ?_
  refine RA.loopI fun T0 hT0 nT0 eT0 => ?_
  have L0 : ∀ (f i : Nat) (c1 : Cu) (w : List Bool) (Q : Qst), i + f = ls.length + 2 → c1.ok → w.length = i → (∀ w' : List Bool, w'.length ≤ 40000 → Q (.tup [d.o, .own true 4 0 (ls.map Wr.c), .own true 1 0 (w'.map Oc)]) []) →
      RA Y a37 T0 [(2, .elt 0 0 0), (5, .elt 1 0 0), (6, .row 4), (7, .elt 5 0 0), (8, .row 6), (9, i64 i)] [(0, .box [.emp, .emp]), (1, .box [.row 2, .row 3]), (2, .row true 1 0 (d.pages.map Sc)), (3, .row true 2 0 (d.sups.map Su.c)), (4, .row true 4 0 (ls.map Wr.c)), (5, .box (Cu.c c1)), (6, .row true 1 0 (w.map Oc))] 7 Q := by
    intro f
    induction f using Nat.strongRecOn with
    | _ f IH =>
      intro i c1 w Q hi hc1 hw hQ
      rw [eT0]
      refine .seq <| .seq <| .reg <| .mv rfl rfl <| .mv rfl rfl <| .len rfl rfl rfl <| .mv rfl rfl <| ?_
      obtain ⟨x2, c2, ⟨hx2, hy2, hz2, hc2, hb2⟩, R2⟩ := s_l1Below c1 hc1 3 (by decide)
      have hy2 := hy2 (by decide)
      refine .cPz rfl rfl rfl R2 .refl rfl rfl rfl (by decide) <| .add rfl rfl rfl (by omega) <| .sub rfl rfl rfl (by omega) <| .lss rfl rfl rfl (fun h1 => ?_) (fun h1 => ?_)
      · refine .nil <| .condT rfl <| .skip <| .seq <| .block <| .reg <| .mv rfl rfl <| .mv rfl rfl <| ?_
        obtain ⟨b3, c3, ⟨hc3, hb3⟩, R3⟩ := s_l1Once c2 hc2 2 (by decide)
        refine .cPz rfl rfl rfl R3 .refl rfl rfl rfl (by decide) <| .row1P rfl rfl rfl rfl rfl rfl rfl rfl <| .ap rfl rfl rfl rfl rfl (by simp; omega) (by decide) <| .mv rfl rfl <| .nil <| .inBlock <| .reg <| .mv rfl rfl <| .add rfl rfl rfl (by omega) <| .mv rfl rfl <| .nil <| hT0 <| ?_
        exact RA.ws [_, _, _, _, _, _, _] (IH (f - 1) (by omega) (i + 1) c3 (w ++ [b3]) _ (by omega) hc3 (by simp [hw]) hQ) nT0 (by exact .l rfl rfl rfl <| .l rfl rfl rfl <| .r rfl rfl <| .l rfl rfl rfl <| .r rfl rfl <| .i rfl (by omega) .nil) (by exact .b rfl rfl (.same rfl) <| .b rfl rfl (.box2 (.row rfl) (.row rfl)) <| .r rfl rfl (fun _ => rfl) <| .r rfl rfl (fun _ => rfl) <| .r rfl rfl (fun _ => rfl) <| .b rfl rfl (.same rfl) <| .r rfl rfl (fun _ => rfl) .nil)
      · refine .nil <| .condF rfl <| .exit rfl <| .seq <| .reg <| .aE rfl rfl rfl rfl <| .mv rfl rfl <| .mv rfl rfl <| .stA rfl rfl rfl rfl rfl rfl <| .mv rfl rfl <| .mv rfl rfl <| .nil <| .ret rfl (hQ w (by omega)) (.tup3 (.agg2 (by first | exact .rw (fun _ => rfl) | exact .ox (by rw [List.map_set]; rfl) (fun _ => rfl)) (by first | exact .rw (fun _ => rfl) | exact .ox (by rw [List.map_set]; rfl) (fun _ => rfl))) (by first | exact .rw (fun _ => rfl) | exact .ox rfl (fun _ => rfl)) (by first | exact .rw (fun _ => rfl) | exact .ox rfl (fun _ => rfl))) LeBs.refl
  exact RA.ws [_, _, _, _, _, _, _] (L0 (ls.length + 2) 0 c1 [] _ (by omega) hc1 rfl (fun w' q => ⟨d, ls, w', rfl, rfl, hd, hls, hln, q⟩)) nT0 (by exact .l rfl rfl rfl <| .l rfl rfl rfl <| .r rfl rfl <| .l rfl rfl rfl <| .r rfl rfl <| .k rfl rfl .nil) (by exact .b rfl rfl (.same rfl) <| .b rfl rfl (.box2 (.row rfl) (.row rfl)) <| .r rfl rfl (fun _ => rfl) <| .r rfl rfl (fun _ => rfl) <| .r rfl rfl (fun _ => rfl) <| .b rfl rfl (.same rfl) <| .x rfl rfl rfl (fun _ => rfl) .nil)
theorem s_DrawSome (code : List UInt8) (h : code.length ≤ 1048576) : ∃ (d : Dk) (ls : List Wr) (w : List Bool), (d.B ∧ Lok ls ∧ ls.length ≤ 30000 ∧ w.length ≤ 40000) ∧ RF Y 37 [.fro true 1 (code.map Bc)] (.tup [d.o, .own true 4 0 (ls.map Wr.c), .own true 1 0 (w.map Oc)]) [] := by
  obtain ⟨r, o, ⟨d, ls, w, rfl, rfl, hp⟩, hr⟩ := s_DrawSome_x code h
  exact ⟨d, ls, w, hp, hr⟩
end Go.Proofs.Ytjjocahgbmibeaa

namespace Go.Proofs.Ytjjocahgbmibeaa
open Go.Eng
set_option maxRecDepth 4000
set_option linter.unusedSimpArgs false
set_option linter.unusedVariables false
def txtAt (i : Nat) (s : ByteArray) (l : List Wr) : ByteArray := l.foldl (fun s w => if w.at_ = (i : Int) then w.text else s) s
theorem txt_page {i : Nat} : ∀ (l : List Wr) (d : Dk) (s : ByteArray), d.pages[i]? = some s → (doAll d l).pages[i]? = some (txtAt i s l) := by
  intro l
  induction l with
  | nil => intro d s h; exact h
  | cons w l ih =>
    intro d s h
    have hi : i < d.pages.length := (List.getElem?_eq_some_iff.1 h).1
    rw [doAll, List.foldl_cons, txtAt, List.foldl_cons]
    refine ih (wr1 d w) _ ?_
    unfold wr1
    simp only
    by_cases hw : w.at_ = (i : Int)
    · rw [if_pos hw, if_pos (by omega), hw, Int.toNat_natCast, List.getElem?_set_self hi]
    · rw [if_neg hw]
      split
      · rw [List.getElem?_set_ne (by omega)]; exact h
      · exact h
theorem txt_cons (i : Nat) (s : ByteArray) (w : Wr) (l : List Wr) : txtAt i s (w :: l) = txtAt i (if w.at_ = (i : Int) then w.text else s) l := rfl
theorem l_FnWrites (code : List UInt8) : RF Y 6 [.fro true 1 (code.map Bc)] (.b true) [] := by
  refine RF.s1 rfl rfl rfl fun Q hQ => ?_
  refine .seq <| .reg <| .mv rfl rfl <| .nil <| .seq <| .seq <| .reg <| .mv rfl rfl <| .c rfl rfl rfl (l_big code) .refl rfl rfl rfl (by decide) <| .bB (fun h1 => ?_) (fun h1 => ?_)
  · refine .nil <| .condT rfl <| .seq <| .reg <| .mv rfl rfl <| .nil <| .ret rfl hQ .r LeBs.refl
  · have hlen : code.length ≤ 1048576 := by simp at h1; omega
    refine .nil <| .condF rfl <| .skip <| .seq <| .reg <| .mv rfl rfl <| ?_
    obtain ⟨d, ls, ⟨hd, hls, hln⟩, R1⟩ := s_DrawDo code hlen
    have hDl := doAll_len ls d
    have hd1 := hd.1
    refine .c rfl rfl rfl R1 .refl rfl rfl rfl (by decide) <| .mv rfl rfl <| .ex rfl rfl rfl <| .ex rfl rfl rfl <| .new rfl <| .stA rfl rfl rfl rfl rfl rfl <| .mv rfl rfl <| .nil <| .seq <| .reg <| .aE rfl rfl rfl rfl <| .mv rfl rfl <| .c rfl rfl rfl (i_Do d ls hd.1 hd.2.1 (by omega) hls) (.c .r (.c (.fz (.rw (fun h => h))) .n)) rfl rfl rfl (by decide) <| .new rfl <| .stA rfl rfl rfl rfl rfl rfl <| .nil <| .seq <| .reg <| .aE rfl rfl rfl rfl <| .mv rfl rfl <| .c rfl rfl rfl (s_Do d ls hd.1 hd.2.1 (by omega)) (.c .r (.c (.fz (.rw (fun h => h))) .n)) rfl rfl rfl (by decide) <| .new rfl <| .stA rfl rfl rfl rfl rfl rfl <| .nil <| .seq <| .seq <| .reg <| .fa rfl rfl <| .ldE rfl rfl rfl rfl <| .len rfl rfl rfl <| .fa rfl rfl <| .ldE rfl rfl rfl rfl <| .len rfl rfl rfl <| .neq rfl rfl rfl (fun h2 => ?_) (fun h2 => ?_)
    · exact absurd rfl h2
    · refine .mv rfl rfl <| .g rfl rfl <| .fa rfl rfl <| .g rfl rfl <| .ldE rfl rfl rfl rfl <| .g rfl rfl <| .len rfl rfl rfl <| .g rfl rfl <| .fa rfl rfl <| .g rfl rfl <| .ldE rfl rfl rfl rfl <| .g rfl rfl <| .len rfl rfl rfl <| .g rfl rfl <| .neq rfl rfl rfl (fun h3 => ?_) (fun h3 => ?_)
      · exact absurd rfl h3
      · refine .pickF rfl rfl rfl <| .nil <| .condF rfl <| .skip <| .seq <| .seq <| .reg <| .mv rfl rfl <| .nil <| .block <| ?_
        refine RA.loopI fun T0 hT0 nT0 eT0 => ?_
        have L0 : ∀ (f i : Nat) (Q : Qst), i + f = d.pages.length → Q (.b true) [] → RA Y a6 T0 [(0, .fro true 1 (code.map Bc)), (3, .elt 0 0 0), (4, .row 3), (5, .elt 4 0 0), (6, .elt 7 0 0), (7, i64 i)] [(0, .box [.row 1, .row 2]), (1, .row true 1 0 (d.pages.map Sc)), (2, .row true 2 0 (d.sups.map Su.c)), (3, .row true 4 0 (ls.map Wr.c)), (4, .box [.row 5, .row 6]), (5, .row true 1 0 ((doAll d ls).pages.map Sc)), (6, .row true 2 0 ((doAll d ls).sups.map Su.c)), (7, .box [.row 8, .row 9]), (8, .row true 1 0 ((doAll d ls).pages.map Sc)), (9, .row true 2 0 ((doAll d ls).sups.map Su.c))] 10 Q := by
          intro f
          induction f using Nat.strongRecOn with
          | _ f IH =>
            intro i Q hi hQ
            rw [eT0]
            refine .seq <| .seq <| .reg <| .mv rfl rfl <| .fa rfl rfl <| .ldE rfl rfl rfl rfl <| .len rfl rfl rfl <| .lss rfl rfl rfl (fun h4 => ?_) (fun h4 => ?_)
            · obtain ⟨s0, hs0⟩ : ∃ s0, d.pages[i]? = some s0 := ⟨_, getD_at (by omega)⟩
              obtain ⟨pg, hpg⟩ : ∃ pg, txtAt i s0 ls = pg := ⟨_, rfl⟩
              have hpp := txt_page ls d s0 hs0
              rw [hpg] at hpp
              refine .nil <| .condT rfl <| .skip <| .seq <| .block <| .seq <| .reg <| .fa rfl rfl <| .ldE rfl rfl rfl rfl <| .mv rfl rfl <| .iaR rfl rfl rfl rfl (by rw [List.length_map]; omega) <| .ldR rfl rfl rfl (by rw [List.getElem?_map, hs0]; rfl) rfl <| .mv rfl rfl <| .nil <| .seq <| .seq <| .reg <| .mv rfl rfl <| .nil <| .block <| ?_
              refine RA.loopI fun T1 hT1 nT1 eT1 => ?_
              have L1 : ∀ (post pre : List Wr) (s : ByteArray) (Q : Qst), ls = pre ++ post → txtAt i s post = pg → Q (.b true) [] → RA Y a6 T1 [(0, .fro true 1 (code.map Bc)), (3, .elt 0 0 0), (4, .row 3), (5, .elt 4 0 0), (6, .elt 7 0 0), (7, i64 i), (8, .s s), (9, i64 pre.length)] [(0, .box [.row 1, .row 2]), (1, .row true 1 0 (d.pages.map Sc)), (2, .row true 2 0 (d.sups.map Su.c)), (3, .row true 4 0 (ls.map Wr.c)), (4, .box [.row 5, .row 6]), (5, .row true 1 0 ((doAll d ls).pages.map Sc)), (6, .row true 2 0 ((doAll d ls).sups.map Su.c)), (7, .box [.row 8, .row 9]), (8, .row true 1 0 ((doAll d ls).pages.map Sc)), (9, .row true 2 0 ((doAll d ls).sups.map Su.c))] 10 Q := by
                intro post
                induction post with
                | nil =>
                  intro pre s Q hc hs hQ
                  have hl : ls.length = pre.length := by simp [hc]
                  have hsp : s = pg := hs
                  rw [eT1]
                  refine .seq <| .seq <| .reg <| .mv rfl rfl <| .mv rfl rfl <| .len rfl rfl rfl <| .lssF rfl rfl rfl (by omega) <| .nil <| .condF rfl <| .exit rfl <| .seq <| .regD <| .fa rfl rfl <| .ldE rfl rfl rfl rfl <| .mv rfl rfl <| .iaR rfl rfl rfl rfl (by rw [List.length_map]; omega) <| .ldR rfl rfl rfl (by rw [List.getElem?_map, hpp]; rfl) rfl <| .mv rfl rfl <| .sn rfl rfl rfl (fun h6 => ?_) (fun h6 => ?_)
                  · exact absurd hsp.symm h6
                  · refine .mv rfl rfl <| .g rfl rfl <| .fa rfl rfl <| .g rfl rfl <| .ldE rfl rfl rfl rfl <| .g rfl rfl <| .mv rfl rfl <| .g rfl rfl <| .iaR rfl rfl rfl rfl (by rw [List.length_map]; omega) <| .g rfl rfl <| .ldR rfl rfl rfl (by rw [List.getElem?_map, hpp]; rfl) rfl <| .g rfl rfl <| .fa rfl rfl <| .g rfl rfl <| .ldE rfl rfl rfl rfl <| .g rfl rfl <| .mv rfl rfl <| .g rfl rfl <| .iaR rfl rfl rfl rfl (by rw [List.length_map]; omega) <| .g rfl rfl <| .ldR rfl rfl rfl (by rw [List.getElem?_map, hpp]; rfl) rfl <| .g rfl rfl <| .sn rfl rfl rfl (fun h7 => ?_) (fun h7 => ?_)
                    · exact absurd rfl h7
                    · refine .pickF rfl rfl rfl <| .nil (by kernel_rfl) <| .condF rfl <| .skip <| .inBlock <| .reg <| .mv rfl rfl <| .add rfl rfl rfl (by omega) <| .mv rfl rfl <| .nil <| hT0 <| ?_
                      exact RA.ws [_, _, _, _, _, _, _, _, _, _] (IH (f - 1) (by omega) (i + 1) Q (by omega) hQ) nT0 (by exact .k rfl rfl <| .l rfl rfl rfl <| .r rfl rfl <| .l rfl rfl rfl <| .l rfl rfl rfl <| .i rfl (by omega) .nil) (by exact .b rfl rfl (.box2 (.row rfl) (.row rfl)) <| .r rfl rfl (fun _ => rfl) <| .r rfl rfl (fun _ => rfl) <| .r rfl rfl (fun _ => rfl) <| .b rfl rfl (.box2 (.row rfl) (.row rfl)) <| .r rfl rfl (fun _ => rfl) <| .r rfl rfl (fun _ => rfl) <| .b rfl rfl (.box2 (.row rfl) (.row rfl)) <| .r rfl rfl (fun _ => rfl) <| .r rfl rfl (fun _ => rfl) .nil)
                | cons a post ih =>
                  intro pre s Q hc hs hQ
                  have hl : ls.length = pre.length + post.length + 1 := by simp [hc]; omega
                  have ha : ls[pre.length]? = some a := by simp [hc]
                  rw [txt_cons] at hs
                  rw [eT1]
                  refine .seq <| .seq <| .reg <| .mv rfl rfl <| .mv rfl rfl <| .len rfl rfl rfl <| .lssT rfl rfl rfl (by omega) <| .nil <| .condT rfl <| .skip <| .seq <| .block <| .seq <| .reg <| .mv rfl rfl <| .mv rfl rfl <| .iaR rfl rfl rfl rfl (by first | assumption | (simp; omega)) <| .fa rfl rfl <| .ldR rfl rfl rfl (by rw [List.getElem?_map, ha]; rfl) rfl <| .mv rfl rfl <| .eql rfl rfl rfl (fun h6 => ?_) (fun h6 => ?_)
                  · refine .nil <| .condT rfl <| .reg <| .mv rfl rfl <| .mv rfl rfl <| .iaR rfl rfl rfl rfl (by first | assumption | (simp; omega)) <| .fa rfl rfl <| .ldR rfl rfl rfl (by rw [List.getElem?_map, ha]; rfl) rfl <| .mv rfl rfl <| .nil <| .inBlock <| .reg <| .mv rfl rfl <| .add rfl rfl rfl (by omega) <| .mv rfl rfl <| .nil <| hT1 <| ?_
                    exact RA.ws [_, _, _, _, _, _, _, _, _, _] (ih (pre ++ [a]) a.text _ (by simp [hc]) (by rw [if_pos (by assumption)] at hs; exact hs) hQ) nT1 (by exact .k rfl rfl <| .l rfl rfl rfl <| .r rfl rfl <| .l rfl rfl rfl <| .l rfl rfl rfl <| .k rfl rfl <| .k rfl rfl <| .i rfl (by simp) .nil) (by exact .b rfl rfl (.box2 (.row rfl) (.row rfl)) <| .r rfl rfl (fun _ => rfl) <| .r rfl rfl (fun _ => rfl) <| .r rfl rfl (fun _ => rfl) <| .b rfl rfl (.box2 (.row rfl) (.row rfl)) <| .r rfl rfl (fun _ => rfl) <| .r rfl rfl (fun _ => rfl) <| .b rfl rfl (.box2 (.row rfl) (.row rfl)) <| .r rfl rfl (fun _ => rfl) <| .r rfl rfl (fun _ => rfl) .nil)
                  · refine .nil <| .condF rfl <| .skip <| .inBlock <| .reg <| .mv rfl rfl <| .add rfl rfl rfl (by omega) <| .mv rfl rfl <| .nil <| hT1 <| ?_
                    exact RA.ws [_, _, _, _, _, _, _, _, _, _] (ih (pre ++ [a]) s _ (by simp [hc]) (by rw [if_neg (by assumption)] at hs; exact hs) hQ) nT1 (by exact .k rfl rfl <| .l rfl rfl rfl <| .r rfl rfl <| .l rfl rfl rfl <| .l rfl rfl rfl <| .k rfl rfl <| .k rfl rfl <| .i rfl (by simp) .nil) (by exact .b rfl rfl (.box2 (.row rfl) (.row rfl)) <| .r rfl rfl (fun _ => rfl) <| .r rfl rfl (fun _ => rfl) <| .r rfl rfl (fun _ => rfl) <| .b rfl rfl (.box2 (.row rfl) (.row rfl)) <| .r rfl rfl (fun _ => rfl) <| .r rfl rfl (fun _ => rfl) <| .b rfl rfl (.box2 (.row rfl) (.row rfl)) <| .r rfl rfl (fun _ => rfl) <| .r rfl rfl (fun _ => rfl) .nil)
              exact RA.ws [_, _, _, _, _, _, _, _, _, _] (L1 ls [] s0 _ rfl hpg hQ) nT1 (by exact .k rfl rfl <| .l rfl rfl rfl <| .r rfl rfl <| .l rfl rfl rfl <| .l rfl rfl rfl <| .k rfl rfl <| .k rfl rfl <| .i rfl (by simp) .nil) (by exact .b rfl rfl (.box2 (.row rfl) (.row rfl)) <| .r rfl rfl (fun _ => rfl) <| .r rfl rfl (fun _ => rfl) <| .r rfl rfl (fun _ => rfl) <| .b rfl rfl (.box2 (.row rfl) (.row rfl)) <| .r rfl rfl (fun _ => rfl) <| .r rfl rfl (fun _ => rfl) <| .b rfl rfl (.box2 (.row rfl) (.row rfl)) <| .r rfl rfl (fun _ => rfl) <| .r rfl rfl (fun _ => rfl) .nil)
            · refine .nil <| .condF rfl <| .exit rfl <| .seq <| .reg <| .mv rfl rfl <| ?_
              obtain ⟨g, ps, wh, ⟨hg, hps, hpn, hwn⟩, R2⟩ := s_DrawSome code hlen
              have hGl := doAll_len (sel ps wh) g
              have hg1 := hg.1
              refine .c rfl rfl rfl R2 .refl rfl rfl rfl (by decide) <| .mv rfl rfl <| .ex rfl rfl rfl <| .ex rfl rfl rfl <| .ex rfl rfl rfl <| .new rfl <| .stA rfl rfl rfl rfl rfl rfl <| .mv rfl rfl <| .mv rfl rfl <| .nil <| .seq <| .regD <| .aE rfl rfl rfl rfl <| .mv rfl rfl <| .mv rfl rfl <| .c rfl rfl rfl (i_Some g ps wh hg.1 hg.2.1 (by omega) (by omega) hps) (.c .r (.c (.fz (.rw (fun h => h))) (.c (.fz (.rw (fun h => h))) .n))) rfl rfl rfl (by decide) <| .aE rfl rfl rfl rfl <| .mv rfl rfl <| .mv rfl rfl <| .c rfl rfl rfl (s_Some g ps wh hg.1 hg.2.1 (by omega) (by omega)) (.c .r (.c (.fz (.rw (fun h => h))) (.c (.fz (.rw (fun h => h))) .n))) rfl rfl rfl (by decide) <| .new rfl <| .new rfl <| .stA rfl rfl rfl rfl rfl rfl <| .stA rfl rfl rfl rfl rfl rfl <| .nil (by kernel_rfl) <| .seq <| .seq <| .reg <| .mv rfl rfl <| .nil <| .block <| ?_
              refine RA.loopI fun T2 hT2 nT2 eT2 => ?_
              have L2 : ∀ (f i : Nat) (Q : Qst), i + f = (doAll g (sel ps wh)).pages.length → Q (.b true) [] → RA Y a6 T2 [(13, .elt 0 0 0), (14, .elt 3 0 0), (15, i64 i)] [(0, .box [.row 1, .row 2]), (1, .row true 1 0 ((doAll g (sel ps wh)).pages.map Sc)), (2, .row true 2 0 ((doAll g (sel ps wh)).sups.map Su.c)), (3, .box [.row 4, .row 5]), (4, .row true 1 0 ((doAll g (sel ps wh)).pages.map Sc)), (5, .row true 2 0 ((doAll g (sel ps wh)).sups.map Su.c))] 6 Q := by
                intro f
                induction f using Nat.strongRecOn with
                | _ f IH =>
                  intro i Q hi hQ
                  rw [eT2]
                  refine .seq <| .seq <| .reg <| .mv rfl rfl <| .fa rfl rfl <| .ldE rfl rfl rfl rfl <| .len rfl rfl rfl <| .lss rfl rfl rfl (fun h7 => ?_) (fun h7 => ?_)
                  · obtain ⟨q0, hq0⟩ : ∃ q0, (doAll g (sel ps wh)).pages[i]? = some q0 := ⟨_, getD_at (by omega)⟩
                    refine .nil <| .condT rfl <| .skip <| .seq <| .block <| .seq <| .regD <| .fa rfl rfl <| .ldE rfl rfl rfl rfl <| .mv rfl rfl <| .iaR rfl rfl rfl rfl (by rw [List.length_map]; omega) <| .ldR rfl rfl rfl (by rw [List.getElem?_map, hq0]; rfl) rfl <| .fa rfl rfl <| .ldE rfl rfl rfl rfl <| .mv rfl rfl <| .iaR rfl rfl rfl rfl (by rw [List.length_map]; omega) <| .ldR rfl rfl rfl (by rw [List.getElem?_map, hq0]; rfl) rfl <| .sn rfl rfl rfl (fun h8 => ?_) (fun h8 => ?_)
                    · exact absurd rfl h8
                    · refine .nil (by kernel_rfl) <| .condF rfl <| .skip <| .inBlock <| .reg <| .mv rfl rfl <| .add rfl rfl rfl (by omega) <| .mv rfl rfl <| .nil <| hT2 <| ?_
                      exact RA.ws [_, _, _, _, _, _] (IH (f - 1) (by omega) (i + 1) Q (by omega) hQ) nT2 (by exact .l rfl rfl rfl <| .l rfl rfl rfl <| .i rfl (by omega) .nil) (by exact .b rfl rfl (.box2 (.row rfl) (.row rfl)) <| .r rfl rfl (fun _ => rfl) <| .r rfl rfl (fun _ => rfl) <| .b rfl rfl (.box2 (.row rfl) (.row rfl)) <| .r rfl rfl (fun _ => rfl) <| .r rfl rfl (fun _ => rfl) .nil)
                  · refine .nil <| .condF rfl <| .exit rfl <| .seq <| .reg <| .fa rfl rfl <| .ldE rfl rfl rfl rfl <| .len rfl rfl rfl <| .fa rfl rfl <| .ldE rfl rfl rfl rfl <| .len rfl rfl rfl <| .eql rfl rfl rfl (fun h9 => ?_) (fun h9 => ?_)
                    · refine .mv rfl rfl <| .nil <| .ret rfl hQ .r LeBs.refl
                    · exact absurd rfl h9
              exact RA.ws [_, _, _, _, _, _] (L2 (doAll g (sel ps wh)).pages.length 0 Q (by omega) hQ) nT2 (by exact .l rfl rfl rfl <| .l rfl rfl rfl <| .k rfl rfl .nil) (by exact .b rfl rfl (.box2 (.row rfl) (.row rfl)) <| .r rfl rfl (fun _ => rfl) <| .r rfl rfl (fun _ => rfl) <| .b rfl rfl (.box2 (.row rfl) (.row rfl)) <| .r rfl rfl (fun _ => rfl) <| .r rfl rfl (fun _ => rfl) .nil)
        exact RA.ws [_, _, _, _, _, _, _, _, _, _] (L0 d.pages.length 0 Q (by omega) hQ) nT0 (by exact .k rfl rfl <| .l rfl rfl rfl <| .r rfl rfl <| .l rfl rfl rfl <| .l rfl rfl rfl <| .k rfl rfl .nil) (by exact .b rfl rfl (.box2 (.row rfl) (.row rfl)) <| .r rfl rfl (fun _ => rfl) <| .r rfl rfl (fun _ => rfl) <| .r rfl rfl (fun _ => rfl) <| .b rfl rfl (.box2 (.row rfl) (.row rfl)) <| .r rfl rfl (fun _ => rfl) <| .r rfl rfl (fun _ => rfl) <| .b rfl rfl (.box2 (.row rfl) (.row rfl)) <| .r rfl rfl (fun _ => rfl) <| .r rfl rfl (fun _ => rfl) .nil)
end Go.Proofs.Ytjjocahgbmibeaa
