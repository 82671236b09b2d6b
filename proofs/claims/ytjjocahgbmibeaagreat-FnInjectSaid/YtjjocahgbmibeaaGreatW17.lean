/- Walks: a message to a tree, a tree that is built (the program); what is drawn for them. -/
import Derived.Test.YtjjocahgbmibeaaGreatW16
import Derived.Test.YtjjocahgbmibeaaGreatW12
namespace Go.Proofs.YtjjocahgbmibeaaGreat
open Go.Eng
set_option maxRecDepth 4000
set_option linter.unusedSimpArgs false
set_option linter.unusedVariables false
theorem i_rooted1 (m : Mn) (h : m.ts.length ≤ 4) : RF Y 51 [.agg (Mn.e m)] (.agg (root m).e) [] := by
  refine RF.s1 rfl rfl rfl fun Q hQ => ?_
  rw [show root m = rootT m by unfold root; rw [rootF_stop (by omega)]] at hQ
  refine .seq <| .reg <| .box rfl rfl rfl <| .new rfl <| .nil <| .seq <| .block <| ?_
  refine RA.loopI fun T0 hT0 nT0 eT0 => ?_
  rw [eT0]
  refine .seq <| .seq <| .reg <| .fa rfl rfl <| .ldE rfl rfl rfl rfl <| .len rfl rfl rfl <| .gtrF rfl rfl rfl (by omega) <| .nil <| .condF rfl <| .exit rfl <| .seq <| .seq <| .reg <| .fa rfl rfl <| .ldE rfl rfl rfl rfl <| .len rfl rfl rfl <| .eql rfl rfl rfl (fun h2 => ?_) (fun h2 => ?_)
  · obtain ⟨a, ha⟩ : ∃ a, m.ts[0]? = some a := ⟨_, getD_at (by omega)⟩
    rw [show rootT m = a by unfold rootT; rw [if_pos (by omega)]; simp [List.getD, ha]] at hQ
    refine .nil <| .condT rfl <| .seq <| .reg <| .fa rfl rfl <| .ldE rfl rfl rfl rfl <| .ia rfl rfl rfl (by assumption) <| .aF rfl rfl rfl <| .stA rfl rfl rfl rfl rfl rfl <| .nil <| .ret rfl hQ .r LeBs.refl
  · rw [show rootT m = nodeT m.cs m.ts [] by unfold rootT; rw [if_neg (by omega)]] at hQ
    refine .nil <| .condF rfl <| .skip <| .seq <| .reg <| .fa rfl rfl <| .ldE rfl rfl rfl rfl <| .fa rfl rfl <| .ldE rfl rfl rfl rfl <| .build (cs := [_, _, _, _, _]) rfl rfl rfl <| .stA rfl rfl rfl rfl rfl rfl <| .nil <| .ret rfl hQ (.agg5 .r (.fz .emp) .r (.fz (.kx rfl)) (.fz .emp)) LeBs.refl
  
theorem i_rooted2 (n : Nat) (m : Mn) (hn : 0 < n) (hm : WfM n m) (h : ¬ m.ts.length ≤ 4) (hl : m.ts.length ≤ 100000) : RF Y 51 [.agg (Mn.e m)] (Tr.o (root m)) [] := by
  refine RF.s1 rfl rfl rfl fun Q hQ => ?_
  have hmc := hm.2.1
  have IH0 : (0 : Nat) = 0 := rfl
  refine .seq <| .reg <| .box rfl rfl rfl <| .new rfl <| .nil <| .seq <| .block <| ?_
  refine RA.loopI fun T0 hT0 nT0 eT0 => ?_
  have L0 : ∀ (f n : Nat) (m : Mn) (Q : Qst), 0 < n → WfM n m → 2 ≤ m.ts.length → m.ts.length ≤ 100000 → m.ts.length ≤ f → Q (Tr.o (rootT (rootF f m))) [] →
      RA Y a51 T0 [(1, .elt 0 0 0), (2, .elt 1 0 0)] [(0, .box [.row 2, .row 3]), (1, .box [.b false, .emp, .emp, .emp, .emp]), (2, .row false 5 0 (m.ts.map Tr.e)), (3, .row true 1 0 (m.cs.map Ic))] 4 Q := by
    intro f
    induction f using Nat.strongRecOn with
    | _ f IH =>
      intro n m Q hn hm h2l hl hf hQ
      have hmc := hm.2.1
      rw [eT0]
      refine .seq <| .seq <| .reg <| .fa rfl rfl <| .ldE rfl rfl rfl rfl <| .len rfl rfl rfl <| .gtr rfl rfl rfl (fun h1 => ?_) (fun h1 => ?_)
      · obtain ⟨f, rfl⟩ : ∃ f', f = f' + 1 := ⟨f - 1, by omega⟩
        rw [rootF, if_pos (show m.ts.length > 4 by omega)] at hQ
        obtain ⟨hp1, hp2, hp3⟩ := pack_wf hn hm (by omega)
        have hp4 := pack_ge m
        refine .nil <| .condT rfl <| .skip <| .block <| .reg <| .aE rfl rfl rfl rfl <| .cz rfl rfl rfl (i_grouped m (by omega) hmc (by omega)) .refl rfl rfl rfl (by decide) <| .stA rfl rfl rfl rfl rfl rfl <| .nil <| .inBlock <| hT0 <| ?_
        exact RA.ws [_, _, _, _] (IH f (by omega) (n + 1) (pack m) _ (by omega) hp1 (by omega) (by omega) (by omega) hQ) nT0 (by exact .l rfl rfl rfl <| .l rfl rfl rfl .nil) (by exact .b rfl rfl (.box2 (.row rfl) (.row rfl)) <| .b rfl rfl (.same rfl) <| .r rfl rfl (fun h => by cases h) <| .r rfl rfl (fun _ => rfl) .nil)
      · rw [rootF_stop (by omega)] at hQ
        rw [show rootT m = nodeT m.cs m.ts [] by unfold rootT; rw [if_neg (by omega)]] at hQ
        refine .nil <| .condF rfl <| .exit rfl <| .seq <| .seq <| .reg <| .fa rfl rfl <| .ldE rfl rfl rfl rfl <| .len rfl rfl rfl <| .eqlF rfl rfl rfl (by omega) <| .nil <| .condF rfl <| .skip <| .seq <| .reg <| .fa rfl rfl <| .ldE rfl rfl rfl rfl <| .fa rfl rfl <| .ldE rfl rfl rfl rfl <| .build (cs := [_, _, _, _, _]) rfl rfl rfl <| .stA rfl rfl rfl rfl rfl rfl <| .nil <| .ret rfl hQ (.agg5 .r .nilO (.ox rfl (by first | exact fun _ => rfl | exact fun h => by cases h)) (.ox rfl (by first | exact fun _ => rfl | exact fun h => by cases h)) .nilO) LeBs.refl
  unfold root at hQ
  obtain ⟨f, hf'⟩ : ∃ f, f = m.ts.length := ⟨_, rfl⟩
  rw [← hf'] at hQ
  have hf : m.ts.length ≤ f := by omega
  have IH := fun (f' : Nat) (_ : f' < f) => L0 f'
  obtain ⟨f, rfl⟩ : ∃ f', f = f' + 1 := ⟨f - 1, by omega⟩
  rw [rootF, if_pos (show m.ts.length > 4 by omega)] at hQ
  obtain ⟨hp1, hp2, hp3⟩ := pack_wf hn hm (by omega)
  have hp4 := pack_ge m
  rw [eT0]
  refine .seq <| .seq <| .reg <| .fa rfl rfl <| .ldE rfl rfl rfl rfl <| .len rfl rfl rfl <| .gtrT rfl rfl rfl (by omega) <| .nil <| .condT rfl <| .skip <| .block <| .reg <| .aE rfl rfl rfl rfl <| .cz rfl rfl rfl (i_grouped m (by omega) hmc (by omega)) .refl rfl rfl rfl (by decide) <| .stA rfl rfl rfl rfl rfl rfl <| .nil <| .inBlock <| hT0 <| ?_
  exact RA.ws [_, _, _, _] (IH f (by omega) (n + 1) (pack m) _ (by omega) hp1 (by omega) (by omega) (by omega) hQ) nT0 (by exact .l rfl rfl rfl <| .l rfl rfl rfl .nil) (by exact .b rfl rfl (.box2 (.row rfl) (.row rfl)) <| .b rfl rfl (.same rfl) <| .r rfl rfl (fun h => by cases h) <| .r rfl rfl (fun _ => rfl) .nil)
  
theorem i_copyTreeS (t : Tr) (HC : ∀ k, k ∈ t.ks → RF Y 50 [.agg k.e] (Tr.o k) []) (h : t.sz ≤ 1000000) : RF Y 50 [.agg t.e] (Tr.o t) [] := by
  refine RF.s1 rfl rfl rfl fun Q hQ => ?_
  obtain ⟨hz1, hz2, hz3, hz4⟩ := Tr.lens h
  refine .seq <| .reg <| .box rfl rfl rfl <| .new rfl <| .nil <| .seq <| .reg <| .row0 rfl rfl rfl <| .mv rfl rfl <| .nil <| .seq <| .seq <| .reg <| .fa rfl rfl <| .ldE rfl rfl rfl rfl <| .len rfl rfl rfl <| .mv rfl rfl <| .nil <| .block <| ?_
  refine RA.loopI fun T0 hT0 nT0 eT0 => ?_
  have L0 : ∀ (post pre : List Tr)  (Q : Qst), t.ks = pre ++ post → Q (Tr.o t) [] → RA Y a50 T0 [(1, .elt 0 0 0), (2, .elt 1 0 0), (3, .row 2), (8, .fro false 5 (t.ks.map Tr.c)), (9, i64 t.ks.length), (10, i64 pre.length)] [(0, .box t.e), (1, .box [.b false, .emp, .emp, .emp, .emp]), (2, .row false 5 0 (pre.map Tr.e))] 3 Q := by
    intro post
    induction post with
    | nil =>
      intro pre  Q hc  hQ
      have hl : t.ks.length = pre.length := by simp [hc]
      rw [eT0]
      refine .seq <| .reg <| .lssF rfl rfl rfl (by omega) <| .nil <| .seq <| .condF rfl <| .exit rfl <| .seq <| .regD <| .fa rfl rfl <| .ldE rfl rfl rfl rfl <| .fa rfl rfl <| .ldE rfl rfl rfl rfl <| .c rfl rfl rfl (Clone_Pair t.ps (by omega)) .refl rfl rfl rfl (by decide) <| .fa rfl rfl <| .ldE rfl rfl rfl rfl <| .c rfl rfl rfl (Clone_int _ (by simp; omega)) .refl rfl rfl rfl (by decide) <| .mv rfl rfl <| .fa rfl rfl <| .ldE rfl rfl rfl rfl <| .c rfl rfl rfl (Clone_Msg _ (by simp; omega)) .refl rfl rfl rfl (by decide) <| .build (cs := [_, _, _, _, _]) rfl rfl rfl <| .stA rfl rfl rfl rfl rfl rfl <| .nil (by kernel_rfl) <| .ret rfl hQ (.agg5 .r (.ox rfl (by first | exact fun _ => rfl | exact fun h => by cases h)) (.ox rfl (by first | exact fun _ => rfl | exact fun h => by cases h)) (.ox (by simp [hc]) (by first | exact fun _ => rfl | exact fun h => by cases h)) (.ox rfl (by first | exact fun _ => rfl | exact fun h => by cases h))) LeBs.refl
    | cons a post ih =>
      intro pre  Q hc  hQ
      have hl : t.ks.length = pre.length + post.length + 1 := by simp [hc]; omega
      have ha : t.ks[pre.length]? = some a := by simp [hc]
      rw [eT0]
      refine .seq <| .reg <| .lssT rfl rfl rfl (by omega) <| .nil <| .seq <| .condT rfl <| .skip <| .seq <| .block <| .seq <| .reg <| .ia rfl rfl rfl (by assumption) <| .aF rfl rfl rfl <| .new rfl <| .stA rfl rfl rfl rfl rfl rfl <| .nil <| .reg <| .mv rfl rfl <| .aE rfl rfl rfl rfl <| .cz rfl rfl rfl (HC a (by simp [hc])) .refl rfl rfl rfl (by decide) <| .row1 (qs := [_, _, _, _, _]) (u := [_, _, _, _]) rfl rfl rfl rfl rfl rfl rfl rfl <| .ap rfl rfl rfl rfl rfl (by simp; omega) (by decide) <| .mv rfl rfl <| .nil <| .inBlock <| .reg <| .add rfl rfl rfl (by omega) <| .mv rfl rfl <| .nil <| hT0 <| ?_
      exact RA.wr [_, _, _] (ih (pre ++ [a])  _ (by simp [hc])  hQ) nT0 (hm := by exact .b rfl rfl (.same rfl) <| .b rfl rfl (.same rfl) <| .s rfl rfl (fun h => by cases h) rfl (leTr rfl (.rx (fun _ => rfl) rfl) (.rx (fun _ => rfl) rfl) (.kx rfl) (.rx (fun _ => rfl) rfl)) .nil)
  exact RA.wr [_, _, _] (L0 t.ks []  _ rfl  hQ) nT0 (hm := by exact .b rfl rfl (.same rfl) <| .b rfl rfl (.same rfl) <| .x rfl rfl rfl (fun h => by cases h) .nil)
theorem i_copyTree (t : Tr) (h : t.sz ≤ 1000000) : RF Y 50 [.agg t.e] (Tr.o t) [] := by
  have key : ∀ (n : Nat) (t : Tr), t.sz ≤ n → t.sz ≤ 1000000 → RF Y 50 [.agg t.e] (Tr.o t) [] := by
    intro n
    induction n with
    | zero => intro t h0 h; exact i_copyTreeS t (fun k hk => by have := Tr.kid_sz hk; omega) h
    | succ n ih => intro t h0 h; exact i_copyTreeS t (fun k hk => by have := Tr.kid_sz hk; exact ih k (by omega) (by omega)) h
  exact key t.sz t (Nat.le_refl _) h
theorem i_Inject1 (t : Tr) (m : Ms) (h : t.sz ≤ 1000000) (hw : treeOk t = true → t.w + 2 ≤ 10000) (hg : (give (tdepth t) t [m]).ts.length ≤ 4) : RF Y 12 [.agg t.e, .agg (Ms.c m)] (Tr.o (inject t m)) [] := by
  refine RF.s2 rfl rfl rfl fun Q hQ => ?_
  refine .seq <| .reg <| .box rfl rfl rfl <| .box rfl rfl rfl <| .new rfl <| .nil <| .seq <| .seq <| .reg <| .aE rfl rfl rfl rfl <| .c rfl rfl rfl (i_TreeOk t h) .refl rfl rfl rfl (by decide) <| .bB (fun h1 => ?_) (fun h1 => ?_)
  · refine .notT rfl rfl <| .mv rfl rfl <| .g rfl rfl <| .aE rfl rfl rfl rfl <| .g rfl rfl <| .c rfl rfl rfl (i_MsgOk m) .refl rfl rfl rfl (by decide) <| .bB (fun h2 => ?_) (fun h2 => ?_)
    · refine .g rfl rfl <| .notT rfl rfl <| .pickF rfl rfl rfl <| .mv rfl rfl <| .g rfl rfl <| .fa rfl rfl <| .g rfl rfl <| .ldE rfl rfl rfl rfl <| .g rfl rfl <| .eql rfl rfl rfl (fun h3 => ?_) (fun h3 => ?_)
      · rw [show inject t m = t by unfold inject; rw [if_neg (by simp; omega)]] at hQ
        refine .pickF rfl rfl rfl <| .nil <| .condT rfl <| .seq <| .reg <| .aE rfl rfl rfl rfl <| .cz rfl rfl rfl (i_copyTree t h) .refl rfl rfl rfl (by decide) <| .stA rfl rfl rfl rfl rfl rfl <| .nil <| .ret rfl hQ (.agg5 .r (.ox rfl (by first | exact fun _ => rfl | exact fun h => by cases h)) (.ox rfl (by first | exact fun _ => rfl | exact fun h => by cases h)) (.ox rfl (by first | exact fun _ => rfl | exact fun h => by cases h)) (.ox rfl (by first | exact fun _ => rfl | exact fun h => by cases h))) LeBs.refl
      · obtain ⟨hT1, hT2, hT3⟩ := treeOk_wf h1
        have hw := hw h1
        obtain ⟨hG1, hG2⟩ := give_wf (tdepth t) t [m] hT1
        obtain ⟨⟨n', hR1⟩, hR2⟩ := root_wf (show 0 < tdepth t from hT2) hG1
        have hR3 := hR1.sz
        have hG3 := wfL_len hG1.2.2
        rw [List.length_singleton] at hG2
        refine .pickF rfl rfl rfl <| .nil <| .condF rfl <| .skip <| .seq <| .reg <| .aE rfl rfl rfl rfl <| .aE rfl rfl rfl rfl <| .row1P rfl rfl rfl rfl rfl rfl rfl rfl <| .cz rfl rfl rfl (i_give (tdepth t) t [m] 0 1000 (R_of_ok h1) (fun x hx => by simp at hx; subst hx; exact bufOk_all h2 h3) (by rw [List.length_singleton]; omega)) (.c .r (.c (.fz (.rw (fun h => h))) .n)) rfl rfl rfl (by decide) <| .cz rfl rfl rfl (i_rooted1 (give (tdepth t) t [m]) hg) .refl rfl rfl rfl (by decide) <| .new rfl <| .stA rfl rfl rfl rfl rfl rfl <| .nil <| .seq <| .seq <| .reg <| .aE rfl rfl rfl rfl <| .c rfl rfl rfl (i_TreeOk (root (give (tdepth t) t [m])) (by omega)) .refl rfl rfl rfl (by decide) <| .bB (fun h4 => ?_) (fun h4 => ?_)
        · rw [show inject t m = root (give (tdepth t) t [m]) by unfold inject; rw [if_pos ⟨h1, h2, by omega⟩, if_pos h4]] at hQ
          refine .notT rfl rfl <| .nil <| .condF rfl <| .skip <| .seq <| .reg <| .aE rfl rfl rfl rfl <| .cz rfl rfl rfl (i_copyTree (root (give (tdepth t) t [m])) (by omega)) .refl rfl rfl rfl (by decide) <| .stA rfl rfl rfl rfl rfl rfl <| .nil <| .ret rfl hQ (.agg5 .r (.ox rfl (by first | exact fun _ => rfl | exact fun h => by cases h)) (.ox rfl (by first | exact fun _ => rfl | exact fun h => by cases h)) (.ox rfl (by first | exact fun _ => rfl | exact fun h => by cases h)) (.ox rfl (by first | exact fun _ => rfl | exact fun h => by cases h))) LeBs.refl
        · rw [show inject t m = t by unfold inject; rw [if_pos ⟨h1, h2, by omega⟩, if_neg (by simp [h4])]] at hQ
          refine .notF rfl rfl <| .nil <| .condT rfl <| .seq <| .reg <| .aE rfl rfl rfl rfl <| .cz rfl rfl rfl (i_copyTree t h) .refl rfl rfl rfl (by decide) <| .stA rfl rfl rfl rfl rfl rfl <| .nil <| .ret rfl hQ (.agg5 .r (.ox rfl (by first | exact fun _ => rfl | exact fun h => by cases h)) (.ox rfl (by first | exact fun _ => rfl | exact fun h => by cases h)) (.ox rfl (by first | exact fun _ => rfl | exact fun h => by cases h)) (.ox rfl (by first | exact fun _ => rfl | exact fun h => by cases h))) LeBs.refl
    · rw [show inject t m = t by unfold inject; rw [if_neg (by simp [h2])]] at hQ
      refine .g rfl rfl <| .notF rfl rfl <| .pickF rfl rfl rfl <| .mv rfl rfl <| .gs rfl rfl rfl <| .gs rfl rfl rfl <| .gs rfl rfl rfl <| .pickT rfl rfl rfl <| .nil <| .condT rfl <| .seq <| .reg <| .aE rfl rfl rfl rfl <| .cz rfl rfl rfl (i_copyTree t h) .refl rfl rfl rfl (by decide) <| .stA rfl rfl rfl rfl rfl rfl <| .nil <| .ret rfl hQ (.agg5 .r (.ox rfl (by first | exact fun _ => rfl | exact fun h => by cases h)) (.ox rfl (by first | exact fun _ => rfl | exact fun h => by cases h)) (.ox rfl (by first | exact fun _ => rfl | exact fun h => by cases h)) (.ox rfl (by first | exact fun _ => rfl | exact fun h => by cases h))) LeBs.refl
  · rw [show inject t m = t by unfold inject; rw [if_neg (by simp [h1])]] at hQ
    refine .notF rfl rfl <| .mv rfl rfl <| .gs rfl rfl rfl <| .gs rfl rfl rfl <| .gs rfl rfl rfl <| .pickT rfl rfl rfl <| .mv rfl rfl <| .gs rfl rfl rfl <| .gs rfl rfl rfl <| .gs rfl rfl rfl <| .pickT rfl rfl rfl <| .nil <| .condT rfl <| .seq <| .reg <| .aE rfl rfl rfl rfl <| .cz rfl rfl rfl (i_copyTree t h) .refl rfl rfl rfl (by decide) <| .stA rfl rfl rfl rfl rfl rfl <| .nil <| .ret rfl hQ (.agg5 .r (.ox rfl (by first | exact fun _ => rfl | exact fun h => by cases h)) (.ox rfl (by first | exact fun _ => rfl | exact fun h => by cases h)) (.ox rfl (by first | exact fun _ => rfl | exact fun h => by cases h)) (.ox rfl (by first | exact fun _ => rfl | exact fun h => by cases h))) LeBs.refl
theorem i_Inject2 (t : Tr) (m : Ms) (h : t.sz ≤ 1000000) (hw : treeOk t = true → t.w + 2 ≤ 10000) (hg : ¬ (give (tdepth t) t [m]).ts.length ≤ 4) : RF Y 12 [.agg t.e, .agg (Ms.c m)] (Tr.o (inject t m)) [] := by
  refine RF.s2 rfl rfl rfl fun Q hQ => ?_
  refine .seq <| .reg <| .box rfl rfl rfl <| .box rfl rfl rfl <| .new rfl <| .nil <| .seq <| .seq <| .reg <| .aE rfl rfl rfl rfl <| .c rfl rfl rfl (i_TreeOk t h) .refl rfl rfl rfl (by decide) <| .bB (fun h1 => ?_) (fun h1 => ?_)
  · refine .notT rfl rfl <| .mv rfl rfl <| .g rfl rfl <| .aE rfl rfl rfl rfl <| .g rfl rfl <| .c rfl rfl rfl (i_MsgOk m) .refl rfl rfl rfl (by decide) <| .bB (fun h2 => ?_) (fun h2 => ?_)
    · refine .g rfl rfl <| .notT rfl rfl <| .pickF rfl rfl rfl <| .mv rfl rfl <| .g rfl rfl <| .fa rfl rfl <| .g rfl rfl <| .ldE rfl rfl rfl rfl <| .g rfl rfl <| .eql rfl rfl rfl (fun h3 => ?_) (fun h3 => ?_)
      · rw [show inject t m = t by unfold inject; rw [if_neg (by simp; omega)]] at hQ
        refine .pickF rfl rfl rfl <| .nil <| .condT rfl <| .seq <| .reg <| .aE rfl rfl rfl rfl <| .cz rfl rfl rfl (i_copyTree t h) .refl rfl rfl rfl (by decide) <| .stA rfl rfl rfl rfl rfl rfl <| .nil <| .ret rfl hQ (.agg5 .r (.ox rfl (by first | exact fun _ => rfl | exact fun h => by cases h)) (.ox rfl (by first | exact fun _ => rfl | exact fun h => by cases h)) (.ox rfl (by first | exact fun _ => rfl | exact fun h => by cases h)) (.ox rfl (by first | exact fun _ => rfl | exact fun h => by cases h))) LeBs.refl
      · obtain ⟨hT1, hT2, hT3⟩ := treeOk_wf h1
        have hw := hw h1
        obtain ⟨hG1, hG2⟩ := give_wf (tdepth t) t [m] hT1
        obtain ⟨⟨n', hR1⟩, hR2⟩ := root_wf (show 0 < tdepth t from hT2) hG1
        have hR3 := hR1.sz
        have hG3 := wfL_len hG1.2.2
        rw [List.length_singleton] at hG2
        refine .pickF rfl rfl rfl <| .nil <| .condF rfl <| .skip <| .seq <| .reg <| .aE rfl rfl rfl rfl <| .aE rfl rfl rfl rfl <| .row1P rfl rfl rfl rfl rfl rfl rfl rfl <| .cz rfl rfl rfl (i_give (tdepth t) t [m] 0 1000 (R_of_ok h1) (fun x hx => by simp at hx; subst hx; exact bufOk_all h2 h3) (by rw [List.length_singleton]; omega)) (.c .r (.c (.fz (.rw (fun h => h))) .n)) rfl rfl rfl (by decide) <| .cz rfl rfl rfl (i_rooted2 (tdepth t) (give (tdepth t) t [m]) hT2 hG1 hg (by omega)) .refl rfl rfl rfl (by decide) <| .new rfl <| .stA rfl rfl rfl rfl rfl rfl <| .nil <| .seq <| .seq <| .reg <| .aE rfl rfl rfl rfl <| .c rfl rfl rfl (i_TreeOk (root (give (tdepth t) t [m])) (by omega)) (.c (.trF _) .n) rfl rfl rfl (by decide) <| .bB (fun h4 => ?_) (fun h4 => ?_)
        · rw [show inject t m = root (give (tdepth t) t [m]) by unfold inject; rw [if_pos ⟨h1, h2, by omega⟩, if_pos h4]] at hQ
          refine .notT rfl rfl <| .nil <| .condF rfl <| .skip <| .seq <| .reg <| .aE rfl rfl rfl rfl <| .cz rfl rfl rfl (i_copyTree (root (give (tdepth t) t [m])) (by omega)) (.c (.trF _) .n) rfl rfl rfl (by decide) <| .stA rfl rfl rfl rfl rfl rfl <| .nil <| .ret rfl hQ (.agg5 .r (.ox rfl (by first | exact fun _ => rfl | exact fun h => by cases h)) (.ox rfl (by first | exact fun _ => rfl | exact fun h => by cases h)) (.ox rfl (by first | exact fun _ => rfl | exact fun h => by cases h)) (.ox rfl (by first | exact fun _ => rfl | exact fun h => by cases h))) LeBs.refl
        · rw [show inject t m = t by unfold inject; rw [if_pos ⟨h1, h2, by omega⟩, if_neg (by simp [h4])]] at hQ
          refine .notF rfl rfl <| .nil <| .condT rfl <| .seq <| .reg <| .aE rfl rfl rfl rfl <| .cz rfl rfl rfl (i_copyTree t h) .refl rfl rfl rfl (by decide) <| .stA rfl rfl rfl rfl rfl rfl <| .nil <| .ret rfl hQ (.agg5 .r (.ox rfl (by first | exact fun _ => rfl | exact fun h => by cases h)) (.ox rfl (by first | exact fun _ => rfl | exact fun h => by cases h)) (.ox rfl (by first | exact fun _ => rfl | exact fun h => by cases h)) (.ox rfl (by first | exact fun _ => rfl | exact fun h => by cases h))) LeBs.refl
    · rw [show inject t m = t by unfold inject; rw [if_neg (by simp [h2])]] at hQ
      refine .g rfl rfl <| .notF rfl rfl <| .pickF rfl rfl rfl <| .mv rfl rfl <| .gs rfl rfl rfl <| .gs rfl rfl rfl <| .gs rfl rfl rfl <| .pickT rfl rfl rfl <| .nil <| .condT rfl <| .seq <| .reg <| .aE rfl rfl rfl rfl <| .cz rfl rfl rfl (i_copyTree t h) .refl rfl rfl rfl (by decide) <| .stA rfl rfl rfl rfl rfl rfl <| .nil <| .ret rfl hQ (.agg5 .r (.ox rfl (by first | exact fun _ => rfl | exact fun h => by cases h)) (.ox rfl (by first | exact fun _ => rfl | exact fun h => by cases h)) (.ox rfl (by first | exact fun _ => rfl | exact fun h => by cases h)) (.ox rfl (by first | exact fun _ => rfl | exact fun h => by cases h))) LeBs.refl
  · rw [show inject t m = t by unfold inject; rw [if_neg (by simp [h1])]] at hQ
    refine .notF rfl rfl <| .mv rfl rfl <| .gs rfl rfl rfl <| .gs rfl rfl rfl <| .gs rfl rfl rfl <| .pickT rfl rfl rfl <| .mv rfl rfl <| .gs rfl rfl rfl <| .gs rfl rfl rfl <| .gs rfl rfl rfl <| .pickT rfl rfl rfl <| .nil <| .condT rfl <| .seq <| .reg <| .aE rfl rfl rfl rfl <| .cz rfl rfl rfl (i_copyTree t h) .refl rfl rfl rfl (by decide) <| .stA rfl rfl rfl rfl rfl rfl <| .nil <| .ret rfl hQ (.agg5 .r (.ox rfl (by first | exact fun _ => rfl | exact fun h => by cases h)) (.ox rfl (by first | exact fun _ => rfl | exact fun h => by cases h)) (.ox rfl (by first | exact fun _ => rfl | exact fun h => by cases h)) (.ox rfl (by first | exact fun _ => rfl | exact fun h => by cases h))) LeBs.refl
theorem i_Inject (t : Tr) (m : Ms) (h : t.sz ≤ 1000000) (hw : treeOk t = true → t.w + 2 ≤ 10000) : RF Y 12 [.agg t.e, .agg (Ms.c m)] (Tr.o (inject t m)) [] := by
  by_cases hg : (give (tdepth t) t [m]).ts.length ≤ 4
  · exact i_Inject1 t m h hw hg
  · exact i_Inject2 t m h hw hg
def bfold (l : List Pr) : Tr := l.foldl (fun t p => inject t ⟨1, p.k, p.v⟩) (.mk true [] [] [] [])
def built (l : List Pr) : Bool := mapOk l && decide (mapT (bfold l) = l)
def builtT (l : List Pr) : Tr := if built l = true then bfold l else .mk false [] [] [] []
end Go.Proofs.YtjjocahgbmibeaaGreat
