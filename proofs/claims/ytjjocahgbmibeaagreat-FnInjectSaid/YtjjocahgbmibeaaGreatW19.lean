/- The law FnInject: its walk. -/
import Derived.Test.YtjjocahgbmibeaaGreatW18
namespace Go.Proofs.YtjjocahgbmibeaaGreat
open Go.Eng
set_option maxRecDepth 4000
set_option linter.unusedSimpArgs false
set_option linter.unusedVariables false
theorem inj_any {t : Tr} {m : Ms} (ht : treeOk t = true) (hq : t.q ≤ 250) : tmap (inject t m) = mapDo (tmap t) m := by
  by_cases hm : m.ok = true
  · exact inj_step ht hm hq
  · have e1 : inject t m = t := by unfold inject; rw [if_neg (fun q => hm q.2.1)]
    rw [e1, mapDo_bad _ (by simpa using hm)]
theorem inject_no {t : Tr} {m : Ms} (ht : treeOk t = false) : inject t m = t := by unfold inject; rw [if_neg (by simp [ht])]
theorem i_drainedS (n : Nat) (t : Tr) (lo hi : Int) (HD : ∀ (t : Tr) (lo hi : Int), R n t lo hi → t.w ≤ 10000 → RF Y 66 [.agg t.e] (Mn.o (drainG n t)) []) (hR : R (n + 1) t lo hi) (hw : t.w ≤ 10000) : RF Y 66 [.agg t.e] (Mn.o (drainG (n + 1) t)) [] := by
  refine RF.s1 rfl rfl rfl fun Q hQ => ?_
  refine .seq <| .reg <| .box rfl rfl rfl <| .new rfl <| .nil <| .seq <| .seq <| .reg <| .fa rfl rfl <| .ldE rfl rfl rfl rfl <| .bB (fun h1 => ?_) (fun h1 => ?_)
  · have hd1 : drainG (n + 1) t = ⟨[t], []⟩ := by rw [drainG, if_pos h1]
    rw [hd1] at hQ
    refine .nil <| .condT rfl <| .seq <| .reg <| .aE rfl rfl rfl rfl <| .row1P rfl rfl rfl rfl rfl rfl rfl rfl <| .build (cs := [_, _]) rfl rfl rfl <| .stA rfl rfl rfl rfl rfl rfl <| .nil <| .ret rfl hQ (.agg2 (.one (fun h => by cases h) rfl (fun _ _ _ q1 q2 => by rw [q1] at q2; cases q2; exact .refl)) .empO) LeBs.refl
  · obtain ⟨h0, hl, hp, h2, h3', h5', h6, h7⟩ := hR.resolve_left (fun q => by rw [q.2.1] at h1; cases h1)
    have hmW : WfM n ⟨t.ks, t.cs⟩ := Ch.wf (m := ⟨t.ks, t.cs⟩) h7
    have hwe : t.w = 2 * t.bs.length + Tr.wL t.ks := by rw [Tr.w_eq]; simp [hl, hp]
    rw [show drainG (n + 1) t = drainF (catGo (fun _ => drainG n) (down (give n) ⟨t.ks, t.cs⟩ t.bs).cs (down (give n) ⟨t.ks, t.cs⟩ t.bs).ts 0) by rw [drainG, if_neg (by simp [hl])]] at hQ
    have D := i_down n lo hi ⟨t.ks, t.cs⟩ t.bs (i_give n) h7 h6 (by dsimp only; omega)
    have hMR := (down_ok (m := ⟨t.ks, t.cs⟩) (give_ok n) h7 h6).1
    obtain ⟨hM1, hM2, hM3⟩ := down_wf (fun t ms ht => give_wf n t ms ht) hmW t.bs
    generalize down (give n) ⟨t.ks, t.cs⟩ t.bs = M at hQ D hM1 hM2 hM3 hMR
    have hM4 := wfL_len hM1.2.2
    have hM5 := hM1.2.1
    dsimp only at hM2 hM3
    obtain ⟨hP1, hP2, hP3, hP4, hP5⟩ := catGo_ok n (fun _ => drainG n) (fun _ => 0) M.cs M.ts 0 (fun j t _ ht => by simpa using drainG_wf n t ht) hM1.2.2
    rw [sum_zero] at hP2
    obtain ⟨hP6, hP7⟩ := hP3 hM1.1
    refine .nil <| .condF rfl <| .skip <| .seq <| .reg <| .fa rfl rfl <| .ldE rfl rfl rfl rfl <| .fa rfl rfl <| .ldE rfl rfl rfl rfl <| .build (cs := [_, _]) rfl rfl rfl <| .fa rfl rfl <| .ldE rfl rfl rfl rfl <| .cz rfl rfl rfl (D) (.c (.agg2 (.fz (.rx (fun h => by cases h) rfl)) .r) (.c .r .n)) rfl rfl rfl (by decide) <| .new rfl <| .stA rfl rfl rfl rfl rfl rfl <| .nil <| .seq <| .reg <| .build (cs := [_, _]) rfl rfl rfl <| .new rfl <| .stA rfl rfl rfl rfl rfl rfl <| .nil <| .seq <| .seq <| .reg <| .fa rfl rfl <| .ldE rfl rfl rfl rfl <| .len rfl rfl rfl <| .mv rfl rfl <| .nil <| .block <| ?_
    refine RA.loopI fun T0 hT0 nT0 eT0 => ?_
    have L0 : ∀ (post pre : List Tr) (out : Mn) (Q : Qst), M.ts = pre ++ post → out.ts.length ≤ pre.length * 10000 → out.cs.length ≤ pre.length * 10000 → (⟨out.ts ++ (catGo (fun _ => drainG n) M.cs post pre.length).ts, out.cs ++ (catGo (fun _ => drainG n) M.cs post pre.length).cs⟩ : Mn) = catGo (fun _ => drainG n) M.cs M.ts 0 → Q (Mn.o (drainF (catGo (fun _ => drainG n) M.cs M.ts 0))) [] → RA Y a66 T0 [(2, .elt 0 0 0), (3, .elt 1 0 0), (4, .elt 2 0 0), (23, .row 3), (24, i64 M.ts.length), (25, i64 pre.length)] [(0, .box [.emp, .emp]), (1, .box [.row 3, .row 4]), (2, .box [.row 5, .row 6]), (3, .row false 5 0 (M.ts.map Tr.e)), (4, .row true 1 0 (M.cs.map Ic)), (5, .row false 5 0 (out.ts.map Tr.e)), (6, .row true 1 0 (out.cs.map Ic))] 7 Q := by
      intro post
      induction post with
      | nil =>
        intro pre out Q hc ho1 ho2 hP hQ
        have hl : M.ts.length = pre.length := by simp [hc]
        have hPe : catGo (fun _ => drainG n) M.cs M.ts 0 = out := by rw [← hP]; simp [catGo]
        rw [hPe] at hQ hP1 hP2 hP5 hP6 hP7
        have hP8 := wfL_len hP1
        have hd5 : out.cs.length + 1 = out.ts.length := by simpa using hP7
        rw [eT0]
        refine .seq <| .reg <| .lssF rfl rfl rfl (by omega) <| .nil <| .seq <| .condF rfl <| .exit rfl <| .seq <| .seq <| .reg <| .fa rfl rfl <| .ldE rfl rfl rfl rfl <| .len rfl rfl rfl <| .gtr rfl rfl rfl (fun h3 => ?_) (fun h3 => ?_)
        · rw [show drainF out = pack out by unfold drainF; rw [if_pos (by omega)]] at hQ
          refine .nil <| .condT rfl <| .seq <| .reg <| .aE rfl rfl rfl rfl <| .cz rfl rfl rfl (i_grouped out (by omega) hd5 (by omega)) .refl rfl rfl rfl (by decide) <| .stA rfl rfl rfl rfl rfl rfl <| .nil <| .ret rfl hQ (.agg2 (.ox rfl (by first | exact fun _ => rfl | exact fun h => by cases h)) (.ox rfl (by first | exact fun _ => rfl | exact fun h => by cases h))) LeBs.refl
        · rw [show drainF out = ⟨[nodeT out.cs out.ts []], []⟩ by unfold drainF; rw [if_neg (by omega)]] at hQ
          refine .nil <| .condF rfl <| .skip <| .seq <| .reg <| .fa rfl rfl <| .ldE rfl rfl rfl rfl <| .fa rfl rfl <| .ldE rfl rfl rfl rfl <| .build (cs := [_, _, _, _, _]) rfl rfl rfl <| .row1 (qs := [_, _, _, _, _]) (u := [_, _]) rfl rfl rfl rfl rfl rfl rfl rfl <| .build (cs := [_, _]) rfl rfl rfl <| .stA rfl rfl rfl rfl rfl rfl <| .nil <| .ret rfl hQ (.agg2 (.one (fun h => by cases h) rfl (leTr rfl .emp (.rx (fun _ => rfl) rfl) (.kx rfl) .emp)) .empO) LeBs.refl
      | cons a post ih =>
        intro pre out Q hc ho1 ho2 hP hQ
        have hl : M.ts.length = pre.length + post.length + 1 := by simp [hc]; omega
        have ha : M.ts[pre.length]? = some a := by simp [hc]
        obtain ⟨lo', hi', hRa⟩ := hMR.mem a (by simp [hc])
        have hwf := hM1.2.2 a (by simp [hc])
        have haw : a.w ≤ Tr.wL M.ts := Tr.wL_mem (by simp [hc])
        have hac : (M.ts.map Tr.e)[pre.length]? = some (Tr.e a) := by rw [List.getElem?_map, ha]; rfl
        obtain ⟨⟨hx1, hx2, hx3⟩, hx4⟩ := drainG_wf n a hwf
        have hx5 := wfL_len hx3
        rw [eT0]
        refine .seq <| .reg <| .lssT rfl rfl rfl (by omega) <| .nil <| .seq <| .condT rfl <| .skip <| .seq <| .block <| .seq <| .reg <| .mv rfl rfl <| .iaR rfl rfl rfl rfl (by first | assumption | (simp; omega)) <| .aR rfl rfl rfl (by assumption) rfl <| .new rfl <| .mv rfl rfl <| .stA rfl rfl rfl rfl rfl rfl <| .nil <| .seq <| .reg <| .aE rfl rfl rfl rfl <| .cz rfl rfl rfl (HD a lo' hi' hRa (by omega)) .refl rfl rfl rfl (by decide) <| .new rfl <| .stA rfl rfl rfl rfl rfl rfl <| .nil <| .seq <| .seq <| .reg <| .mv rfl rfl <| .gtr rfl rfl rfl (fun h3 => ?_) (fun h3 => ?_)
        · obtain ⟨c, hcc⟩ : ∃ c, M.cs[pre.length - 1]? = some c := ⟨_, getD_at (by omega)⟩
          have hcc' : M.cs[((pre.length : Int) - 1).toNat]? = some c := by rw [show ((pre.length : Int) - 1).toNat = pre.length - 1 by omega]; exact hcc
          have hcg : M.cs.getD (pre.length - 1) 0 = c := by simp [List.getD, hcc]
          refine .nil <| .condT rfl <| .regD <| .fa rfl rfl <| .ldE rfl rfl rfl rfl <| .fa rfl rfl <| .ldE rfl rfl rfl rfl <| .mv rfl rfl <| .sub rfl rfl rfl (by omega) <| .iaRI rfl rfl rfl rfl (by omega) (by rw [List.length_map]; omega) <| .ldR rfl rfl rfl (by rw [List.getElem?_map, hcc']; rfl) rfl <| .row1P rfl rfl rfl rfl rfl rfl rfl rfl <| .ap rfl rfl rfl rfl rfl (by simp; omega) (by decide) <| .fa rfl rfl <| .st1 rfl rfl rfl rfl rfl (of_decide_eq_true rfl) <| .nil (by kernel_rfl) <| .seq <| .reg <| .fa rfl rfl <| .ldE rfl rfl rfl rfl <| .fa rfl rfl <| .ldE rfl rfl rfl rfl <| .ap rfl rfl rfl rfl rfl (by simp; omega) (by decide) <| .fa rfl rfl <| .st1 rfl rfl rfl rfl rfl (of_decide_eq_true rfl) <| .nil <| .reg <| .fa rfl rfl <| .ldE rfl rfl rfl rfl <| .fa rfl rfl <| .ldE rfl rfl rfl rfl <| .ap rfl rfl rfl rfl rfl (by simp; omega) (by decide) <| .fa rfl rfl <| .st1 rfl rfl rfl rfl rfl (of_decide_eq_true rfl) <| .nil <| .inBlock <| .reg <| .add rfl rfl rfl (by omega) <| .mv rfl rfl <| .nil <| hT0 <| ?_
          exact RA.wr [_, _, _, _, _, _, _] (ih (pre ++ [a]) ⟨out.ts ++ (drainG n a).ts, (out.cs ++ [c]) ++ (drainG n a).cs⟩ _ (by simp [hc]) (by simp only [List.length_append, List.length_cons, List.length_nil]; omega) (by simp only [List.length_append, List.length_cons, List.length_nil]; omega) (by rw [← hP]; simp only [catGo]; rw [if_neg (by omega), hcg]; simp only [List.append_assoc, List.cons_append, List.nil_append, List.append_nil, List.length_append, List.length_cons, List.length_nil, Nat.zero_add]) hQ) nT0 (hm := by exact .b rfl rfl (.same rfl) <| .b rfl rfl (.box2 (.row rfl) (.row rfl)) <| .b rfl rfl (.box2 (.row rfl) (.row rfl)) <| .r rfl rfl (fun h => by cases h) <| .r rfl rfl (fun _ => rfl) <| .r rfl rfl (fun h => by cases h) <| .r rfl rfl (fun _ => rfl) .nil)
        · refine .nil <| .condF rfl <| .skip <| .seq <| .reg <| .fa rfl rfl <| .ldE rfl rfl rfl rfl <| .fa rfl rfl <| .ldE rfl rfl rfl rfl <| .ap rfl rfl rfl rfl rfl (by simp; omega) (by decide) <| .fa rfl rfl <| .st1 rfl rfl rfl rfl rfl (of_decide_eq_true rfl) <| .nil <| .reg <| .fa rfl rfl <| .ldE rfl rfl rfl rfl <| .fa rfl rfl <| .ldE rfl rfl rfl rfl <| .ap rfl rfl rfl rfl rfl (by simp; omega) (by decide) <| .fa rfl rfl <| .st1 rfl rfl rfl rfl rfl (of_decide_eq_true rfl) <| .nil <| .inBlock <| .reg <| .add rfl rfl rfl (by omega) <| .mv rfl rfl <| .nil <| hT0 <| ?_
          exact RA.wr [_, _, _, _, _, _, _] (ih (pre ++ [a]) ⟨out.ts ++ (drainG n a).ts, out.cs ++ (drainG n a).cs⟩ _ (by simp [hc]) (by simp only [List.length_append, List.length_cons, List.length_nil]; omega) (by simp only [List.length_append, List.length_cons, List.length_nil]; omega) (by rw [← hP]; simp only [catGo]; rw [if_pos (by omega)]; simp only [List.append_assoc, List.cons_append, List.nil_append, List.append_nil, List.length_append, List.length_cons, List.length_nil, Nat.zero_add]) hQ) nT0 (hm := by exact .b rfl rfl (.same rfl) <| .b rfl rfl (.box2 (.row rfl) (.row rfl)) <| .b rfl rfl (.box2 (.row rfl) (.row rfl)) <| .r rfl rfl (fun h => by cases h) <| .r rfl rfl (fun _ => rfl) <| .r rfl rfl (fun h => by cases h) <| .r rfl rfl (fun _ => rfl) .nil)
    refine RA.freshT 4 0 5 nT0 rfl rfl rfl (RA.freshT 4 1 1 nT0 rfl rfl rfl ?_)
    exact RA.wr [_, _, _, _, _, _, _] (L0 M.ts [] ⟨[], []⟩ _ rfl (by simp) (by simp) (by rfl) hQ) nT0 (hm := by exact .b rfl rfl (.same rfl) <| .b rfl rfl (.box2 (.row rfl) (.row rfl)) <| .b rfl rfl (.box2 (.row rfl) (.row rfl)) <| .r rfl rfl (fun h => by cases h) <| .r rfl rfl (fun _ => rfl) <| .x rfl rfl rfl (fun h => by cases h) <| .x rfl rfl rfl (fun _ => rfl) .nil)
theorem i_drained : ∀ (n : Nat) (t : Tr) (lo hi : Int), R n t lo hi → t.w ≤ 10000 → RF Y 66 [.agg t.e] (Mn.o (drainG n t)) []
  | 0, _, _, _, h, _ => h.elim
  | n + 1, t, lo, hi, h, hw => i_drainedS n t lo hi (i_drained n) h hw
theorem i_Drain1 (t : Tr) (h : t.sz ≤ 1000000) (hw : treeOk t = true → t.w ≤ 10000) (hg : (drainG (tdepth t) t).ts.length ≤ 4) : RF Y 22 [.agg t.e] (Tr.o (drain t)) [] := by
  refine RF.s1 rfl rfl rfl fun Q hQ => ?_
  refine .seq <| .reg <| .box rfl rfl rfl <| .new rfl <| .nil <| .seq <| .seq <| .reg <| .aE rfl rfl rfl rfl <| .c rfl rfl rfl (i_TreeOk t h) .refl rfl rfl rfl (by decide) <| .bB (fun h1 => ?_) (fun h1 => ?_)
  · obtain ⟨hT1, hT2, hT3⟩ := treeOk_wf h1
    have hw := hw h1
    obtain ⟨hG1, hG2⟩ := drainG_wf (tdepth t) t hT1
    obtain ⟨⟨n', hR1⟩, hR2⟩ := root_wf (show 0 < tdepth t from hT2) hG1
    have hR3 := hR1.sz
    have hG3 := wfL_len hG1.2.2
    refine .notT rfl rfl <| .nil <| .condF rfl <| .skip <| .seq <| .reg <| .aE rfl rfl rfl rfl <| .cz rfl rfl rfl (i_drained (tdepth t) t 0 1000 (R_of_ok h1) hw) .refl rfl rfl rfl (by decide) <| .cz rfl rfl rfl (i_rooted1 (drainG (tdepth t) t) hg) .refl rfl rfl rfl (by decide) <| .new rfl <| .stA rfl rfl rfl rfl rfl rfl <| .nil <| .seq <| .seq <| .reg <| .aE rfl rfl rfl rfl <| .c rfl rfl rfl (i_TreeOk (root (drainG (tdepth t) t)) (by omega)) .refl rfl rfl rfl (by decide) <| .bB (fun h2 => ?_) (fun h2 => ?_)
    · rw [show drain t = root (drainG (tdepth t) t) by unfold drain; rw [if_pos h1, if_pos h2]] at hQ
      refine .notT rfl rfl <| .nil <| .condF rfl <| .skip <| .seq <| .reg <| .aE rfl rfl rfl rfl <| .cz rfl rfl rfl (i_copyTree (root (drainG (tdepth t) t)) (by omega)) .refl rfl rfl rfl (by decide) <| .stA rfl rfl rfl rfl rfl rfl <| .nil <| .ret rfl hQ (.agg5 .r (.ox rfl (by first | exact fun _ => rfl | exact fun h => by cases h)) (.ox rfl (by first | exact fun _ => rfl | exact fun h => by cases h)) (.ox rfl (by first | exact fun _ => rfl | exact fun h => by cases h)) (.ox rfl (by first | exact fun _ => rfl | exact fun h => by cases h))) LeBs.refl
    · rw [show drain t = t by unfold drain; rw [if_pos h1, if_neg (by simp [h2])]] at hQ
      refine .notF rfl rfl <| .nil <| .condT rfl <| .seq <| .reg <| .aE rfl rfl rfl rfl <| .cz rfl rfl rfl (i_copyTree t h) .refl rfl rfl rfl (by decide) <| .stA rfl rfl rfl rfl rfl rfl <| .nil <| .ret rfl hQ (.agg5 .r (.ox rfl (by first | exact fun _ => rfl | exact fun h => by cases h)) (.ox rfl (by first | exact fun _ => rfl | exact fun h => by cases h)) (.ox rfl (by first | exact fun _ => rfl | exact fun h => by cases h)) (.ox rfl (by first | exact fun _ => rfl | exact fun h => by cases h))) LeBs.refl
  · rw [show drain t = t by unfold drain; rw [if_neg (by simp [h1])]] at hQ
    refine .notF rfl rfl <| .nil <| .condT rfl <| .seq <| .reg <| .aE rfl rfl rfl rfl <| .cz rfl rfl rfl (i_copyTree t h) .refl rfl rfl rfl (by decide) <| .stA rfl rfl rfl rfl rfl rfl <| .nil <| .ret rfl hQ (.agg5 .r (.ox rfl (by first | exact fun _ => rfl | exact fun h => by cases h)) (.ox rfl (by first | exact fun _ => rfl | exact fun h => by cases h)) (.ox rfl (by first | exact fun _ => rfl | exact fun h => by cases h)) (.ox rfl (by first | exact fun _ => rfl | exact fun h => by cases h))) LeBs.refl
theorem i_Drain2 (t : Tr) (h : t.sz ≤ 1000000) (hw : treeOk t = true → t.w ≤ 10000) (hg : ¬ (drainG (tdepth t) t).ts.length ≤ 4) : RF Y 22 [.agg t.e] (Tr.o (drain t)) [] := by
  refine RF.s1 rfl rfl rfl fun Q hQ => ?_
  refine .seq <| .reg <| .box rfl rfl rfl <| .new rfl <| .nil <| .seq <| .seq <| .reg <| .aE rfl rfl rfl rfl <| .c rfl rfl rfl (i_TreeOk t h) .refl rfl rfl rfl (by decide) <| .bB (fun h1 => ?_) (fun h1 => ?_)
  · obtain ⟨hT1, hT2, hT3⟩ := treeOk_wf h1
    have hw := hw h1
    obtain ⟨hG1, hG2⟩ := drainG_wf (tdepth t) t hT1
    obtain ⟨⟨n', hR1⟩, hR2⟩ := root_wf (show 0 < tdepth t from hT2) hG1
    have hR3 := hR1.sz
    have hG3 := wfL_len hG1.2.2
    refine .notT rfl rfl <| .nil <| .condF rfl <| .skip <| .seq <| .reg <| .aE rfl rfl rfl rfl <| .cz rfl rfl rfl (i_drained (tdepth t) t 0 1000 (R_of_ok h1) hw) .refl rfl rfl rfl (by decide) <| .cz rfl rfl rfl (i_rooted2 (tdepth t) (drainG (tdepth t) t) hT2 hG1 hg (by omega)) .refl rfl rfl rfl (by decide) <| .new rfl <| .stA rfl rfl rfl rfl rfl rfl <| .nil <| .seq <| .seq <| .reg <| .aE rfl rfl rfl rfl <| .c rfl rfl rfl (i_TreeOk (root (drainG (tdepth t) t)) (by omega)) (.c (.trF _) .n) rfl rfl rfl (by decide) <| .bB (fun h2 => ?_) (fun h2 => ?_)
    · rw [show drain t = root (drainG (tdepth t) t) by unfold drain; rw [if_pos h1, if_pos h2]] at hQ
      refine .notT rfl rfl <| .nil <| .condF rfl <| .skip <| .seq <| .reg <| .aE rfl rfl rfl rfl <| .cz rfl rfl rfl (i_copyTree (root (drainG (tdepth t) t)) (by omega)) (.c (.trF _) .n) rfl rfl rfl (by decide) <| .stA rfl rfl rfl rfl rfl rfl <| .nil <| .ret rfl hQ (.agg5 .r (.ox rfl (by first | exact fun _ => rfl | exact fun h => by cases h)) (.ox rfl (by first | exact fun _ => rfl | exact fun h => by cases h)) (.ox rfl (by first | exact fun _ => rfl | exact fun h => by cases h)) (.ox rfl (by first | exact fun _ => rfl | exact fun h => by cases h))) LeBs.refl
    · rw [show drain t = t by unfold drain; rw [if_pos h1, if_neg (by simp [h2])]] at hQ
      refine .notF rfl rfl <| .nil <| .condT rfl <| .seq <| .reg <| .aE rfl rfl rfl rfl <| .cz rfl rfl rfl (i_copyTree t h) .refl rfl rfl rfl (by decide) <| .stA rfl rfl rfl rfl rfl rfl <| .nil <| .ret rfl hQ (.agg5 .r (.ox rfl (by first | exact fun _ => rfl | exact fun h => by cases h)) (.ox rfl (by first | exact fun _ => rfl | exact fun h => by cases h)) (.ox rfl (by first | exact fun _ => rfl | exact fun h => by cases h)) (.ox rfl (by first | exact fun _ => rfl | exact fun h => by cases h))) LeBs.refl
  · rw [show drain t = t by unfold drain; rw [if_neg (by simp [h1])]] at hQ
    refine .notF rfl rfl <| .nil <| .condT rfl <| .seq <| .reg <| .aE rfl rfl rfl rfl <| .cz rfl rfl rfl (i_copyTree t h) .refl rfl rfl rfl (by decide) <| .stA rfl rfl rfl rfl rfl rfl <| .nil <| .ret rfl hQ (.agg5 .r (.ox rfl (by first | exact fun _ => rfl | exact fun h => by cases h)) (.ox rfl (by first | exact fun _ => rfl | exact fun h => by cases h)) (.ox rfl (by first | exact fun _ => rfl | exact fun h => by cases h)) (.ox rfl (by first | exact fun _ => rfl | exact fun h => by cases h))) LeBs.refl
theorem i_Drain (t : Tr) (h : t.sz ≤ 1000000) (hw : treeOk t = true → t.w ≤ 10000) : RF Y 22 [.agg t.e] (Tr.o (drain t)) [] := by
  by_cases hg : (drainG (tdepth t) t).ts.length ≤ 4
  · exact i_Drain1 t h hw hg
  · exact i_Drain2 t h hw hg
theorem l_sameInts (l : List Int) (h : l.length ≤ 1000000) : RF Y 63 [.fro true 1 (l.map Ic), .fro true 1 (l.map Ic)] (.b true) [] := by
  refine RF.s2 rfl rfl rfl fun Q hQ => ?_
  refine .seq <| .reg <| .mv rfl rfl <| .nil <| .seq <| .seq <| .reg <| .mv rfl rfl <| .len rfl rfl rfl <| .mv rfl rfl <| .len rfl rfl rfl <| .neq rfl rfl rfl (fun h1 => ?_) (fun h1 => ?_)
  · exact absurd rfl h1
  · refine .nil <| .condF rfl <| .skip <| .seq <| .seq <| .reg <| .mv rfl rfl <| .nil <| .block <| ?_
    refine RA.loopI fun T0 hT0 nT0 eT0 => ?_
    have L0 : ∀ (post pre : List Int)  (Q : Qst), l = pre ++ post → Q (.b true) [] → RA Y a63 T0 [(0, .fro true 1 (l.map Ic)), (1, .fro true 1 (l.map Ic)), (5, i64 pre.length)] [] 0 Q := by
      intro post
      induction post with
      | nil =>
        intro pre  Q hc  hQ
        have hl : l.length = pre.length := by simp [hc]
        rw [eT0]
        refine .seq <| .seq <| .reg <| .mv rfl rfl <| .mv rfl rfl <| .len rfl rfl rfl <| .lssF rfl rfl rfl (by omega) <| .nil <| .condF rfl <| .exit rfl <| .seq <| .reg <| .mv rfl rfl <| .nil <| .ret rfl hQ .r LeBs.refl
      | cons a post ih =>
        intro pre  Q hc  hQ
        have hl : l.length = pre.length + post.length + 1 := by simp [hc]; omega
        have ha : l[pre.length]? = some a := by simp [hc]
        rw [eT0]
        refine .seq <| .seq <| .reg <| .mv rfl rfl <| .mv rfl rfl <| .len rfl rfl rfl <| .lssT rfl rfl rfl (by omega) <| .nil <| .condT rfl <| .skip <| .seq <| .block <| .seq <| .regD <| .mv rfl rfl <| .mv rfl rfl <| .ia rfl rfl rfl (by assumption) <| .ldF rfl rfl rfl <| .mv rfl rfl <| .mv rfl rfl <| .ia rfl rfl rfl (by assumption) <| .ldF rfl rfl rfl <| .neq rfl rfl rfl (fun h3 => ?_) (fun h3 => ?_)
        · exact absurd rfl h3
        · refine .nil (by kernel_rfl) <| .condF rfl <| .skip <| .inBlock <| .reg <| .mv rfl rfl <| .add rfl rfl rfl (by omega) <| .mv rfl rfl <| .nil <| hT0 <| ?_
          exact RA.wq [] (ih (pre ++ [a])  _ (by simp [hc])  hQ) nT0
    exact RA.wq [] (L0 l []  _ rfl  hQ) nT0
theorem l_sameTreeS (t : Tr) (HC : ∀ k, k ∈ t.ks → RF Y 20 [.agg k.e, .agg k.e] (.b true) []) (h : t.sz ≤ 1000000) : RF Y 20 [.agg t.e, .agg t.e] (.b true) [] := by
  refine RF.s2 rfl rfl rfl fun Q hQ => ?_
  obtain ⟨hz1, hz2, hz3, hz4⟩ := Tr.lens h
  refine .seq <| .reg <| .box rfl rfl rfl <| .box rfl rfl rfl <| .mv rfl rfl <| .nil <| .seq <| .seq <| .reg <| .fa rfl rfl <| .ldE rfl rfl rfl rfl <| .fa rfl rfl <| .ldE rfl rfl rfl rfl <| .bne rfl rfl rfl <| .bB (fun h1 => ?_) (fun h1 => ?_)
  · simp at h1
  · refine .mv rfl rfl <| .g rfl rfl <| .fa rfl rfl <| .g rfl rfl <| .ldE rfl rfl rfl rfl <| .g rfl rfl <| .fa rfl rfl <| .g rfl rfl <| .ldE rfl rfl rfl rfl <| .g rfl rfl <| .c rfl rfl rfl (l_samePairs t.ps hz1) .refl rfl rfl rfl (by decide) <| .bB (fun h2 => ?_) (fun h2 => ?_)
    · refine .g rfl rfl <| .notT rfl rfl <| .pickF rfl rfl rfl <| .mv rfl rfl <| .g rfl rfl <| .fa rfl rfl <| .g rfl rfl <| .ldE rfl rfl rfl rfl <| .g rfl rfl <| .fa rfl rfl <| .g rfl rfl <| .ldE rfl rfl rfl rfl <| .g rfl rfl <| .c rfl rfl rfl (l_sameInts t.cs hz2) .refl rfl rfl rfl (by decide) <| .bB (fun h3 => ?_) (fun h3 => ?_)
      · refine .g rfl rfl <| .notT rfl rfl <| .pickF rfl rfl rfl <| .mv rfl rfl <| .g rfl rfl <| .fa rfl rfl <| .g rfl rfl <| .ldE rfl rfl rfl rfl <| .g rfl rfl <| .fa rfl rfl <| .g rfl rfl <| .ldE rfl rfl rfl rfl <| .g rfl rfl <| .c rfl rfl rfl (l_sameMsgs t.bs hz4) .refl rfl rfl rfl (by decide) <| .bB (fun h4 => ?_) (fun h4 => ?_)
        · refine .g rfl rfl <| .notT rfl rfl <| .pickF rfl rfl rfl <| .mv rfl rfl <| .g rfl rfl <| .fa rfl rfl <| .g rfl rfl <| .ldE rfl rfl rfl rfl <| .g rfl rfl <| .len rfl rfl rfl <| .g rfl rfl <| .fa rfl rfl <| .g rfl rfl <| .ldE rfl rfl rfl rfl <| .g rfl rfl <| .len rfl rfl rfl <| .g rfl rfl <| .neq rfl rfl rfl (fun h5 => ?_) (fun h5 => ?_)
          · exact absurd rfl h5
          · refine .pickF rfl rfl rfl <| .nil <| .condF rfl <| .skip <| .seq <| .seq <| .reg <| .mv rfl rfl <| .nil <| .block <| ?_
            refine RA.loopI fun T0 hT0 nT0 eT0 => ?_
            have L0 : ∀ (post pre : List Tr)  (Q : Qst), t.ks = pre ++ post → Q (.b true) [] → RA Y a20 T0 [(2, .elt 0 0 0), (3, .elt 1 0 0), (5, i64 pre.length)] [(0, .box t.e), (1, .box t.e)] 2 Q := by
              intro post
              induction post with
              | nil =>
                intro pre  Q hc  hQ
                have hl : t.ks.length = pre.length := by simp [hc]
                rw [eT0]
                refine .seq <| .seq <| .reg <| .mv rfl rfl <| .fa rfl rfl <| .ldE rfl rfl rfl rfl <| .len rfl rfl rfl <| .lssF rfl rfl rfl (by omega) <| .nil <| .condF rfl <| .exit rfl <| .seq <| .reg <| .mv rfl rfl <| .nil <| .ret rfl hQ .r LeBs.refl
              | cons a post ih =>
                intro pre  Q hc  hQ
                have hl : t.ks.length = pre.length + post.length + 1 := by simp [hc]; omega
                have ha : t.ks[pre.length]? = some a := by simp [hc]
                rw [eT0]
                refine .seq <| .seq <| .reg <| .mv rfl rfl <| .fa rfl rfl <| .ldE rfl rfl rfl rfl <| .len rfl rfl rfl <| .lssT rfl rfl rfl (by omega) <| .nil <| .condT rfl <| .skip <| .seq <| .block <| .seq <| .regD <| .fa rfl rfl <| .ldE rfl rfl rfl rfl <| .mv rfl rfl <| .ia rfl rfl rfl (by assumption) <| .aF rfl rfl rfl <| .fa rfl rfl <| .ldE rfl rfl rfl rfl <| .mv rfl rfl <| .ia rfl rfl rfl (by assumption) <| .aF rfl rfl rfl <| .c rfl rfl rfl (HC a (by simp [hc])) .refl rfl rfl rfl (by decide) <| .bB (fun h7 => ?_) (fun h7 => ?_)
                · refine .notT rfl rfl <| .nil (by kernel_rfl) <| .condF rfl <| .skip <| .inBlock <| .reg <| .mv rfl rfl <| .add rfl rfl rfl (by omega) <| .mv rfl rfl <| .nil <| hT0 <| ?_
                  exact RA.wq [_, _] (ih (pre ++ [a])  _ (by simp [hc])  hQ) nT0
                · cases h7
            exact RA.wq [_, _] (L0 t.ks []  _ rfl  hQ) nT0
        · cases h4
      · cases h3
    · cases h2
theorem l_sameTree (t : Tr) (h : t.sz ≤ 1000000) : RF Y 20 [.agg t.e, .agg t.e] (.b true) [] := by
  have key : ∀ (n : Nat) (t : Tr), t.sz ≤ n → t.sz ≤ 1000000 → RF Y 20 [.agg t.e, .agg t.e] (.b true) [] := by
    intro n
    induction n with
    | zero => intro t h0 h; exact l_sameTreeS t (fun k hk => by have := Tr.kid_sz hk; omega) h
    | succ n ih => intro t h0 h; exact l_sameTreeS t (fun k hk => by have := Tr.kid_sz hk; exact ih k (by omega) (by omega)) h
  exact key t.sz t (Nat.le_refl _) h
theorem s_DrawInject_x (code : List UInt8) (h : code.length ≤ 1048576) : RFx Y 19 [.fro true 1 (code.map Bc)] (fun r o => ∃ (t : Tr) (m : Ms), r = .tup [Tr.o t, .agg (Ms.c m)] ∧ o = [] ∧ t.B) := by
  refine RFx.s1 rfl rfl rfl ?_
  refine .seq <| .reg <| .new rfl <| .new rfl <| .nil <| .seq <| .reg <| .mv rfl rfl <| ?_
  obtain ⟨c1, ⟨hc1, hb1⟩, R1⟩ := s_l1New code h
  refine .cz rfl rfl rfl (R1) .refl rfl rfl rfl (by decide) <| .mv rfl rfl <| .nil <| .seq <| .reg <| .mv rfl rfl <| .mv rfl rfl <| ?_
  obtain ⟨t, c2, ⟨ht, hc2, hb2⟩, R2⟩ := s_l2Draw c1 hc1 code h
  refine .cPz rfl rfl rfl R2 .refl rfl rfl rfl (by decide) <| .new rfl <| .stA rfl rfl rfl rfl rfl rfl <| .nil <| .seq <| .regD <| .aE rfl rfl rfl rfl <| .mv rfl rfl <| ?_
  obtain ⟨m, c3, ⟨hm, hc3, hb3⟩, R3⟩ := s_l1DrawBad c2 hc2
  refine .cPz rfl rfl rfl R3 .refl rfl rfl rfl (by decide) <| .stA rfl rfl rfl rfl rfl rfl <| .stA rfl rfl rfl rfl rfl rfl <| .nil (by kernel_rfl) <| .ret rfl ⟨t, m, rfl, rfl, ht⟩ (.tup2 (.agg5 .r (.ox rfl (by first | exact fun _ => rfl | exact fun h => by cases h)) (.ox rfl (by first | exact fun _ => rfl | exact fun h => by cases h)) (.ox rfl (by first | exact fun _ => rfl | exact fun h => by cases h)) (.ox rfl (by first | exact fun _ => rfl | exact fun h => by cases h))) .r) LeBs.refl
theorem s_DrawInject (code : List UInt8) (h : code.length ≤ 1048576) : ∃ (t : Tr) (m : Ms), (t.B) ∧ RF Y 19 [.fro true 1 (code.map Bc)] (.tup [Tr.o t, .agg (Ms.c m)]) [] := by
  obtain ⟨r, o, ⟨t, m, rfl, rfl, hp⟩, hr⟩ := s_DrawInject_x code h
  exact ⟨t, m, hp, hr⟩
theorem l_FnInject (code : List UInt8) : RF Y 4 [.fro true 1 (code.map Bc)] (.b true) [] := by
  refine RF.s1 rfl rfl rfl fun Q hQ => ?_
  refine .seq <| .reg <| .mv rfl rfl <| .nil <| .seq <| .seq <| .reg <| .mv rfl rfl <| .c rfl rfl rfl (l_big code) .refl rfl rfl rfl (by decide) <| .bB (fun h1 => ?_) (fun h1 => ?_)
  · refine .nil <| .condT rfl <| .seq <| .reg <| .mv rfl rfl <| .nil <| .ret rfl hQ .r LeBs.refl
  · have hlen : code.length ≤ 1048576 := by simp at h1; omega
    refine .nil <| .condF rfl <| .skip <| .seq <| .reg <| .mv rfl rfl <| ?_
    obtain ⟨t, m, ⟨hw, hsz, hqq⟩, R1⟩ := s_DrawInject code hlen
    have hml := tmap_len t
    have hus : (inject t m).sz ≤ 10000 := by
      by_cases ht : treeOk t = true
      · obtain ⟨a1, a2⟩ := inject_ok m ht
        have := ok_sz a1; omega
      · rw [inject_no (by simpa using ht)]; omega
    refine .cz rfl rfl rfl (R1) .refl rfl rfl rfl (by decide) <| .mv rfl rfl <| .ex rfl rfl rfl <| .ex rfl rfl rfl <| .new rfl <| .new rfl <| .stA rfl rfl rfl rfl rfl rfl <| .stA rfl rfl rfl rfl rfl rfl <| .nil <| .seq <| .reg <| .aE rfl rfl rfl rfl <| .aE rfl rfl rfl rfl <| .cz rfl rfl rfl (i_Inject t m (by omega) (fun _ => by omega)) (.c (.trF _) (.c .r .n)) rfl rfl rfl (by decide) <| .new rfl <| .stA rfl rfl rfl rfl rfl rfl <| .nil <| .seq <| .seq <| .regD <| .aE rfl rfl rfl rfl <| .aE rfl rfl rfl rfl <| .aE rfl rfl rfl rfl <| .cz rfl rfl rfl (s_Inject t m (by omega) (fun _ => by omega)) (.c (.trF _) (.c .r .n)) rfl rfl rfl (by decide) <| .c rfl rfl rfl (l_sameTree (inject t m) (by omega)) (.c (.trF _) (.c (.trF _) .n)) rfl rfl rfl (by decide) <| .bB (fun h2 => ?_) (fun h2 => ?_)
    · refine .notT rfl rfl <| .mv rfl rfl <| .g rfl rfl <| .aE rfl rfl rfl rfl <| .g rfl rfl <| .c rfl rfl rfl (i_TreeOk t (by omega)) (.c (.trF _) .n) rfl rfl rfl (by decide) <| .g rfl rfl <| .aE rfl rfl rfl rfl <| .g rfl rfl <| .c rfl rfl rfl (s_TreeOk t (by omega)) (.c (.trF _) .n) rfl rfl rfl (by decide) <| .g rfl rfl <| .bne rfl rfl rfl <| .bB (fun h3 => ?_) (fun h3 => ?_)
      · simp at h3
      · refine .pickF rfl rfl rfl <| .nil (by kernel_rfl) <| .condF rfl <| .skip <| .seq <| .seq <| .reg <| .aE rfl rfl rfl rfl <| .c rfl rfl rfl (s_TreeOk t (by omega)) (.c (.trF _) .n) rfl rfl rfl (by decide) <| .bB (fun h4 => ?_) (fun h4 => ?_)
        · have hqt : t.q ≤ 250 := by omega
          obtain ⟨u1, u2⟩ := inject_ok m h4
          have u3 := inj_any (m := m) h4 hqt
          obtain ⟨d1, d2, d3, d4⟩ := drain_map h4 hqt
          obtain ⟨_, d5⟩ := drain_ok h4
          have d6 := ok_sz d1
          have hTMd := i_TreeMap (drain t) (by omega)
          have hTMu := i_TreeMap (inject t m) (by omega)
          rw [d2] at hTMd
          rw [u3] at hTMu
          have hmd := mapDo_len (tmap t) m
          have hcn := Tr.cnt_le (drain t)
          refine .notT rfl rfl <| .nil <| .condF rfl <| .skip <| .seq <| .reg <| .aE rfl rfl rfl rfl <| .cz rfl rfl rfl (i_Drain t (by omega) (fun _ => by omega)) (.c (.trF _) .n) rfl rfl rfl (by decide) <| .new rfl <| .stA rfl rfl rfl rfl rfl rfl <| .nil <| .seq <| .seq <| .regD <| .aE rfl rfl rfl rfl <| .aE rfl rfl rfl rfl <| .cz rfl rfl rfl (s_Drain t (by omega) (fun _ => by omega)) (.c (.trF _) .n) rfl rfl rfl (by decide) <| .c rfl rfl rfl (l_sameTree (drain t) (by omega)) (.c (.trF _) (.c (.trF _) .n)) rfl rfl rfl (by decide) <| .bB (fun h5 => ?_) (fun h5 => ?_)
          · refine .notT rfl rfl <| .mv rfl rfl <| .g rfl rfl <| .aE rfl rfl rfl rfl <| .g rfl rfl <| .c rfl rfl rfl (hTMd) (.c (.trF _) .n) rfl rfl rfl (by decide) <| .g rfl rfl <| .aE rfl rfl rfl rfl <| .g rfl rfl <| .c rfl rfl rfl (i_TreeMap t (by omega)) (.c (.trF _) .n) rfl rfl rfl (by decide) <| .g rfl rfl <| .c rfl rfl rfl (l_samePairs (tmap t) (by omega)) (.c (.fz (.rw (fun h => h))) (.c (.fz (.rw (fun h => h))) .n)) rfl rfl rfl (by decide) <| .bB (fun h6 => ?_) (fun h6 => ?_)
            · refine .g rfl rfl <| .notT rfl rfl <| .pickF rfl rfl rfl <| .nil (by kernel_rfl) <| .condF rfl <| .skip <| .seq <| .seq <| .reg <| .aE rfl rfl rfl rfl <| .c rfl rfl rfl (i_TreeDepth t (by omega)) (.c (.trF _) .n) rfl rfl rfl (by decide) <| .gtr rfl rfl rfl (fun h7 => ?_) (fun h7 => ?_)
              · refine .nil <| .condT rfl <| .seq <| .reg <| .mv rfl rfl <| .nil <| .ret rfl hQ .r LeBs.refl
              · refine .nil <| .condF rfl <| .skip <| .seq <| .reg <| .aE rfl rfl rfl rfl <| .c rfl rfl rfl (i_TreeCount (drain t) (by omega)) (.c (.trF _) .n) rfl rfl rfl (by decide) <| .mv rfl rfl <| .ex rfl rfl rfl <| .ex rfl rfl rfl <| .mv rfl rfl <| .mv rfl rfl <| .nil <| .seq <| .regD <| .aE rfl rfl rfl rfl <| .c rfl rfl rfl (hTMu) (.c (.trF _) .n) rfl rfl rfl (by decide) <| .aE rfl rfl rfl rfl <| .c rfl rfl rfl (i_TreeMap t (by omega)) (.c (.trF _) .n) rfl rfl rfl (by decide) <| .aE rfl rfl rfl rfl <| .c rfl rfl rfl (i_MapDo (tmap t) m (by omega)) (.c (.fz (.rw (fun h => h))) (.c .r .n)) rfl rfl rfl (by decide) <| .c rfl rfl rfl (l_samePairs (mapDo (tmap t) m) (by omega)) (.c (.fz (.rw (fun h => h))) (.c (.fz (.rw (fun h => h))) .n)) rfl rfl rfl (by decide) <| .bB (fun h8 => ?_) (fun h8 => ?_)
                · refine .mv rfl rfl <| .g rfl rfl <| .aE rfl rfl rfl rfl <| .g rfl rfl <| .c rfl rfl rfl (i_TreeOk (inject t m) (by omega)) (.c (.trF _) .n) rfl rfl rfl (by decide) <| .bB (fun h9 => ?_) (fun h9 => ?_)
                  · refine .pickT rfl rfl rfl <| .mv rfl rfl <| .g rfl rfl <| .aE rfl rfl rfl rfl <| .g rfl rfl <| .c rfl rfl rfl (i_TreeOk (drain t) (by omega)) (.c (.trF _) .n) rfl rfl rfl (by decide) <| .bB (fun h10 => ?_) (fun h10 => ?_)
                    · refine .pickT rfl rfl rfl <| .mv rfl rfl <| .g rfl rfl <| .mv rfl rfl <| .g rfl rfl <| .eql rfl rfl rfl (fun h11 => ?_) (fun h11 => ?_)
                      · refine .g rfl rfl <| .mv rfl rfl <| .gs rfl rfl rfl <| .gs rfl rfl rfl <| .gs rfl rfl rfl <| .g rfl rfl <| .pickT rfl rfl rfl <| .pickT rfl rfl rfl <| .mv rfl rfl <| .nil (by kernel_rfl) <| .ret rfl hQ .r LeBs.refl
                      · exact absurd (by rw [if_pos d1, d3]; rfl) h11
                    · exact absurd d1 (by simp [h10])
                  · exact absurd u1 (by simp [h9])
                · cases h8
            · cases h6
          · cases h5
        · have hST : RF Y 20 [.agg t.e, .agg (inject t m).e] (.b true) [] := by rw [inject_no h4]; exact l_sameTree t (by omega)
          refine .notF rfl rfl <| .nil <| .condT rfl <| .seq <| .reg <| .aE rfl rfl rfl rfl <| .aE rfl rfl rfl rfl <| .c rfl rfl rfl (hST) (.c (.trF _) (.c (.trF _) .n)) rfl rfl rfl (by decide) <| .mv rfl rfl <| .nil <| .ret rfl hQ .r LeBs.refl
    · cases h2
end Go.Proofs.YtjjocahgbmibeaaGreat
