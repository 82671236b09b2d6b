/- Walks: one tree of what came, drained, copied, given a message (the reference). -/
import Derived.Test.YtjjocahgbmibeaaW6
namespace Go.Proofs.Ytjjocahgbmibeaa
open Go.Eng
set_option maxRecDepth 4000
set_option linter.unusedSimpArgs false
set_option linter.unusedVariables false
theorem s_l4Root1 (m : Mn) (h : m.ts.length ≤ 4) : RF Y 169 [.agg (Mn.e m)] (.agg (root m).e) [] := by
  refine RF.s1 rfl rfl rfl fun Q hQ => ?_
  rw [show root m = rootT m by unfold root; rw [rootF_stop (by omega)]] at hQ
  refine .seq <| .reg <| .box rfl rfl rfl <| .new rfl <| .nil <| .seq <| .block <| ?_
  refine RA.loopI fun T0 hT0 nT0 eT0 => ?_
  rw [eT0]
  refine .seq <| .seq <| .reg <| .fa rfl rfl <| .ldE rfl rfl rfl rfl <| .len rfl rfl rfl <| .gtrF rfl rfl rfl (by omega) <| .nil <| .condF rfl <| .exit rfl <| .seq <| .seq <| .reg <| .fa rfl rfl <| .ldE rfl rfl rfl rfl <| .len rfl rfl rfl <| .eql rfl rfl rfl (fun h2 => ?_) (fun h2 => ?_)
  · obtain ⟨a, ha⟩ : ∃ a, m.ts[0]? = some a := ⟨_, getD_at (by omega)⟩
    rw [show rootT m = a by unfold rootT; rw [if_pos (by omega)]; simp [List.getD, ha]] at hQ
    refine .nil <| .condT rfl <| .seq <| .reg <| .fa rfl rfl <| .ldE rfl rfl rfl rfl <| .ia rfl rfl rfl (by assumption) <| .aF rfl rfl rfl <| .stA rfl rfl rfl rfl rfl rfl <| .nil <| .ret rfl hQ .r LeBs.refl
  · rw [show rootT m = nodeT m.cs m.ts [] by unfold rootT; rw [if_neg (by omega)]] at hQ
    refine .nil <| .condF rfl <| .skip <| .seq <| .reg <| .fa rfl rfl <| .ldE rfl rfl rfl rfl <| .fa rfl rfl <| .ldE rfl rfl rfl rfl <| .build (cs := [_, _, _, _, _]) rfl rfl rfl <| .stA rfl rfl rfl rfl rfl rfl <| .nil <| .ret rfl hQ (.agg5 .r (.fz .emp) .r (.fz (.kx rfl)) (.fz .emp)) LeBs.refl
  
theorem s_l4Root2 (n : Nat) (m : Mn) (hn : 0 < n) (hm : WfM n m) (h : ¬ m.ts.length ≤ 4) (hl : m.ts.length ≤ 100000) : RF Y 169 [.agg (Mn.e m)] (Tr.o (root m)) [] := by
  refine RF.s1 rfl rfl rfl fun Q hQ => ?_
  have hmc := hm.2.1
  have IH0 : (0 : Nat) = 0 := rfl
  refine .seq <| .reg <| .box rfl rfl rfl <| .new rfl <| .nil <| .seq <| .block <| ?_
  refine RA.loopI fun T0 hT0 nT0 eT0 => ?_
  have L0 : ∀ (f n : Nat) (m : Mn) (Q : Qst), 0 < n → WfM n m → 2 ≤ m.ts.length → m.ts.length ≤ 100000 → m.ts.length ≤ f → Q (Tr.o (rootT (rootF f m))) [] →
      RA Y a169 T0 [(1, .elt 0 0 0), (2, .elt 1 0 0)] [(0, .box [.row 2, .row 3]), (1, .box [.b false, .emp, .emp, .emp, .emp]), (2, .row false 5 0 (m.ts.map Tr.e)), (3, .row true 1 0 (m.cs.map Ic))] 4 Q := by
    intro f
    induction f using Nat.strongRecOn with
    | _ f IH =>
      intro n m Q hn hm h2l hl hf hQ
      have hmc := hm.2.1
      rw [eT0]
      refine .seq <| .seq <| .reg <| .fa rfl rfl <| .ldE rfl rfl rfl rfl <| .len rfl rfl rfl <| .gtr rfl rfl rfl (fun h1 => ?_) (fun h1 => ?_)
      · obtain ⟨f, rfl⟩ : ∃ f', f = f' + 1 := ⟨f - 1, by omega⟩
        rw [rootF, if_pos (show m.ts.length > 4 by omega)] at hQ
        obtain ⟨hp1, hp2, hp3⟩ := pack_wf hn hm (by omega)
        have hp4 := pack_ge m
        refine .nil <| .condT rfl <| .skip <| .block <| .reg <| .aE rfl rfl rfl rfl <| .cz rfl rfl rfl (s_l4Pack m (by omega) hmc (by omega)) .refl rfl rfl rfl (by decide) <| .stA rfl rfl rfl rfl rfl rfl <| .nil <| .inBlock <| hT0 <| ?_
        exact RA.ws [_, _, _, _] (IH f (by omega) (n + 1) (pack m) _ (by omega) hp1 (by omega) (by omega) (by omega) hQ) nT0 (by exact .l rfl rfl rfl <| .l rfl rfl rfl .nil) (by exact .b rfl rfl (.box2 (.row rfl) (.row rfl)) <| .b rfl rfl (.same rfl) <| .r rfl rfl (fun h => by cases h) <| .r rfl rfl (fun _ => rfl) .nil)
      · rw [rootF_stop (by omega)] at hQ
        rw [show rootT m = nodeT m.cs m.ts [] by unfold rootT; rw [if_neg (by omega)]] at hQ
        refine .nil <| .condF rfl <| .exit rfl <| .seq <| .seq <| .reg <| .fa rfl rfl <| .ldE rfl rfl rfl rfl <| .len rfl rfl rfl <| .eqlF rfl rfl rfl (by omega) <| .nil <| .condF rfl <| .skip <| .seq <| .reg <| .fa rfl rfl <| .ldE rfl rfl rfl rfl <| .fa rfl rfl <| .ldE rfl rfl rfl rfl <| .build (cs := [_, _, _, _, _]) rfl rfl rfl <| .stA rfl rfl rfl rfl rfl rfl <| .nil <| .ret rfl hQ (.agg5 .r .nilO (.ox rfl (by first | exact fun _ => rfl | exact fun h => by cases h)) (.ox rfl (by first | exact fun _ => rfl | exact fun h => by cases h)) .nilO) LeBs.refl
  unfold root at hQ
  obtain ⟨f, hf'⟩ : ∃ f, f = m.ts.length := ⟨_, rfl⟩
  rw [← hf'] at hQ
  have hf : m.ts.length ≤ f := by omega
  have IH := fun (f' : Nat) (_ : f' < f) => L0 f'
  obtain ⟨f, rfl⟩ : ∃ f', f = f' + 1 := ⟨f - 1, by omega⟩
  rw [rootF, if_pos (show m.ts.length > 4 by omega)] at hQ
  obtain ⟨hp1, hp2, hp3⟩ := pack_wf hn hm (by omega)
  have hp4 := pack_ge m
  rw [eT0]
  refine .seq <| .seq <| .reg <| .fa rfl rfl <| .ldE rfl rfl rfl rfl <| .len rfl rfl rfl <| .gtrT rfl rfl rfl (by omega) <| .nil <| .condT rfl <| .skip <| .block <| .reg <| .aE rfl rfl rfl rfl <| .cz rfl rfl rfl (s_l4Pack m (by omega) hmc (by omega)) .refl rfl rfl rfl (by decide) <| .stA rfl rfl rfl rfl rfl rfl <| .nil <| .inBlock <| hT0 <| ?_
  exact RA.ws [_, _, _, _] (IH f (by omega) (n + 1) (pack m) _ (by omega) hp1 (by omega) (by omega) (by omega) hQ) nT0 (by exact .l rfl rfl rfl <| .l rfl rfl rfl .nil) (by exact .b rfl rfl (.box2 (.row rfl) (.row rfl)) <| .b rfl rfl (.same rfl) <| .r rfl rfl (fun h => by cases h) <| .r rfl rfl (fun _ => rfl) .nil)
  
theorem sum_zero (l : List Nat) : (l.map fun _ => 0).sum = 0 := by induction l <;> simp_all
instance impR_e {n mem} (t : Tr) : ImpR n (.agg t.e) mem (.agg t.e) mem n := ⟨[], rfl, rfl⟩
theorem s_TreeNew  : RF Y 114 [] (Tr.o (.mk true [] [] [] [])) [] := by
  refine RF.s0 rfl rfl rfl fun Q hQ => ?_
  refine .seq <| .reg <| .new rfl <| .nil <| .seq <| .reg <| .build (cs := [_, _, _, _, _]) rfl rfl rfl <| .stA rfl rfl rfl rfl rfl rfl <| .nil <| .ret rfl hQ (.agg5 .r .nilO .nilO .nilO .nilO) LeBs.refl
theorem s_l2CopyS (t : Tr) (HC : ∀ k, k ∈ t.ks → RF Y 115 [.agg k.e] (Tr.o k) []) (h : t.sz ≤ 1000000) : RF Y 115 [.agg t.e] (Tr.o t) [] := by
  refine RF.s1 rfl rfl rfl fun Q hQ => ?_
  obtain ⟨hz1, hz2, hz3, hz4⟩ := Tr.lens h
  refine .seq <| .reg <| .box rfl rfl rfl <| .new rfl <| .nil <| .seq <| .regD <| .fa rfl rfl <| .ldE rfl rfl rfl rfl <| .row0 rfl rfl rfl <| .fa rfl rfl <| .ldE rfl rfl rfl rfl <| .ap rfl rfl rfl rfl rfl (by simp; omega) (by decide) <| .row0 rfl rfl rfl <| .fa rfl rfl <| .ldE rfl rfl rfl rfl <| .ap rfl rfl rfl rfl rfl (by simp; omega) (by decide) <| .row0 rfl rfl rfl <| .fa rfl rfl <| .ldE rfl rfl rfl rfl <| .ap rfl rfl rfl rfl rfl (by simp; omega) (by decide) <| .build (cs := [_, _, _, _, _]) rfl rfl rfl <| .new rfl <| .stA rfl rfl rfl rfl rfl rfl <| .nil (by kernel_rfl) <| .seq <| .seq <| .reg <| .mv rfl rfl <| .nil <| .block <| ?_
  refine RA.loopI fun T0 hT0 nT0 eT0 => ?_
  have L0 : ∀ (post pre : List Tr)  (Q : Qst), t.ks = pre ++ post → Q (Tr.o t) [] → RA Y a115 T0 [(1, .elt 0 0 0), (2, .elt 1 0 0), (3, .elt 2 0 0), (4, i64 pre.length)] [(0, .box t.e), (1, .box [.b false, .emp, .emp, .emp, .emp]), (2, .box [.b t.leaf, .row 3, .row 4, .row 5, .row 6]), (3, .row true 2 0 (t.ps.map Pr.c)), (4, .row true 1 0 (t.cs.map Ic)), (5, .row false 5 0 (pre.map Tr.e)), (6, .row true 3 0 (t.bs.map Ms.c))] 7 Q := by
    intro post
    induction post with
    | nil =>
      intro pre  Q hc  hQ
      have hl : t.ks.length = pre.length := by simp [hc]
      rw [eT0]
      refine .seq <| .seq <| .reg <| .mv rfl rfl <| .fa rfl rfl <| .ldE rfl rfl rfl rfl <| .len rfl rfl rfl <| .lssF rfl rfl rfl (by omega) <| .nil <| .condF rfl <| .exit rfl <| .seq <| .reg <| .aE rfl rfl rfl rfl <| .stA rfl rfl rfl rfl rfl rfl <| .nil <| .ret rfl hQ (.agg5 .r (.ox rfl (by first | exact fun _ => rfl | exact fun h => by cases h)) (.ox rfl (by first | exact fun _ => rfl | exact fun h => by cases h)) (.ox (by simp [hc]) (by first | exact fun _ => rfl | exact fun h => by cases h)) (.ox rfl (by first | exact fun _ => rfl | exact fun h => by cases h))) LeBs.refl
    | cons a post ih =>
      intro pre  Q hc  hQ
      have hl : t.ks.length = pre.length + post.length + 1 := by simp [hc]; omega
      have ha : t.ks[pre.length]? = some a := by simp [hc]
      rw [eT0]
      refine .seq <| .seq <| .reg <| .mv rfl rfl <| .fa rfl rfl <| .ldE rfl rfl rfl rfl <| .len rfl rfl rfl <| .lssT rfl rfl rfl (by omega) <| .nil <| .condT rfl <| .skip <| .seq <| .block <| .regD <| .fa rfl rfl <| .ldE rfl rfl rfl rfl <| .fa rfl rfl <| .ldE rfl rfl rfl rfl <| .mv rfl rfl <| .ia rfl rfl rfl (by assumption) <| .aF rfl rfl rfl <| .cz rfl rfl rfl (HC a (by simp [hc])) .refl rfl rfl rfl (by decide) <| .row1 (qs := [_, _, _, _, _]) (u := [_, _, _, _]) rfl rfl rfl rfl rfl rfl rfl rfl <| .ap rfl rfl rfl rfl rfl (by simp; omega) (by decide) <| .fa rfl rfl <| .st1 rfl rfl rfl rfl rfl (of_decide_eq_true rfl) <| .nil (by kernel_rfl) <| .inBlock <| .reg <| .mv rfl rfl <| .add rfl rfl rfl (by omega) <| .mv rfl rfl <| .nil <| hT0 <| ?_
      exact RA.wr [_, _, _, _, _, _, _] (ih (pre ++ [a])  _ (by simp [hc])  hQ) nT0 (hm := by exact .b rfl rfl (.same rfl) <| .b rfl rfl (.same rfl) <| .b rfl rfl (.box5 (.v .refl rfl) (.row rfl) (.row rfl) (.row rfl) (.row rfl)) <| .r rfl rfl (fun _ => rfl) <| .r rfl rfl (fun _ => rfl) <| .s rfl rfl (fun h => by cases h) rfl (leTr rfl (.rx (fun _ => rfl) rfl) (.rx (fun _ => rfl) rfl) (.kx rfl) (.rx (fun _ => rfl) rfl)) <| .r rfl rfl (fun _ => rfl) .nil)
  refine RA.freshT 3 3 5 nT0 rfl rfl rfl ?_
  exact RA.wr [_, _, _, _, _, _, _] (L0 t.ks []  _ rfl  hQ) nT0 (hm := by exact .b rfl rfl (.same rfl) <| .b rfl rfl (.same rfl) <| .b rfl rfl (.box5 (.v .refl rfl) (.row rfl) (.row rfl) (.row rfl) (.row rfl)) <| .r rfl rfl (fun _ => rfl) <| .r rfl rfl (fun _ => rfl) <| .x rfl rfl rfl (fun h => by cases h) <| .r rfl rfl (fun _ => rfl) .nil)
theorem s_l2Copy (t : Tr) (h : t.sz ≤ 1000000) : RF Y 115 [.agg t.e] (Tr.o t) [] := by
  have key : ∀ (n : Nat) (t : Tr), t.sz ≤ n → t.sz ≤ 1000000 → RF Y 115 [.agg t.e] (Tr.o t) [] := by
    intro n
    induction n with
    | zero => intro t h0 h; exact s_l2CopyS t (fun k hk => by have := Tr.kid_sz hk; omega) h
    | succ n ih => intro t h0 h; exact s_l2CopyS t (fun k hk => by have := Tr.kid_sz hk; exact ih k (by omega) (by omega)) h
  exact key t.sz t (Nat.le_refl _) h
theorem s_l4DrainS (n : Nat) (t : Tr) (HD : ∀ (t : Tr), Wf n t → t.w ≤ 10000 → RF Y 171 [.agg t.e] (Mn.o (drainG n t)) []) (ht : Wf (n + 1) t) (hw : t.w ≤ 10000) : RF Y 171 [.agg t.e] (Mn.o (drainG (n + 1) t)) [] := by
  refine RF.s1 rfl rfl rfl fun Q hQ => ?_
  refine .seq <| .reg <| .box rfl rfl rfl <| .new rfl <| .nil <| .seq <| .seq <| .reg <| .fa rfl rfl <| .ldE rfl rfl rfl rfl <| .bB (fun h1 => ?_) (fun h1 => ?_)
  · have hd1 : drainG (n + 1) t = ⟨[t], []⟩ := by rw [drainG, if_pos h1]
    rw [hd1] at hQ
    refine .nil <| .condT rfl <| .seq <| .reg <| .aE rfl rfl rfl rfl <| .row1P rfl rfl rfl rfl rfl rfl rfl rfl <| .build (cs := [_, _]) rfl rfl rfl <| .stA rfl rfl rfl rfl rfl rfl <| .nil <| .ret rfl hQ (.agg2 (.one (fun h => by cases h) rfl (fun _ _ _ q1 q2 => by rw [q1] at q2; cases q2; exact .refl)) .empO) LeBs.refl
  · obtain ⟨h0, hl, hp, h2, hc, hk⟩ : 0 < n ∧ t.leaf = false ∧ t.ps = [] ∧ 2 ≤ t.ks.length ∧ t.cs.length + 1 = t.ks.length ∧ ∀ k, k ∈ t.ks → Wf n k := by
      rcases ht with ht | ht
      · exact absurd ht.2.1 (by simp [h1])
      · exact ht
    have hmW : WfM n ⟨t.ks, t.cs⟩ := ⟨by dsimp only; omega, hc, hk⟩
    have hwe : t.w = 2 * t.bs.length + Tr.wL t.ks := by rw [Tr.w_eq]; simp [hl, hp]
    rw [show drainG (n + 1) t = drainF (catGo (fun _ => drainG n) (down (give n) ⟨t.ks, t.cs⟩ t.bs).cs (down (give n) ⟨t.ks, t.cs⟩ t.bs).ts 0) by rw [drainG, if_neg (by simp [hl])]] at hQ
    have D := s_l4Down n ⟨t.ks, t.cs⟩ t.bs (s_l4Give n) hmW (by dsimp only; omega)
    obtain ⟨hM1, hM2, hM3⟩ := down_wf (fun t ms ht => give_wf n t ms ht) hmW t.bs
    generalize down (give n) ⟨t.ks, t.cs⟩ t.bs = M at hQ D hM1 hM2 hM3
    have hM4 := wfL_len hM1.2.2
    have hM5 := hM1.2.1
    dsimp only at hM2 hM3
    obtain ⟨hP1, hP2, hP3, hP4, hP5⟩ := catGo_ok n (fun _ => drainG n) (fun _ => 0) M.cs M.ts 0 (fun j t _ ht => by simpa using drainG_wf n t ht) hM1.2.2
    rw [sum_zero] at hP2
    obtain ⟨hP6, hP7⟩ := hP3 hM1.1
    refine .nil <| .condF rfl <| .skip <| .seq <| .reg <| .fa rfl rfl <| .ldE rfl rfl rfl rfl <| .fa rfl rfl <| .ldE rfl rfl rfl rfl <| .build (cs := [_, _]) rfl rfl rfl <| .fa rfl rfl <| .ldE rfl rfl rfl rfl <| .cz rfl rfl rfl (D) (.c (.agg2 (.fz (.rx (fun h => by cases h) rfl)) .r) (.c .r .n)) rfl rfl rfl (by decide) <| .new rfl <| .stA rfl rfl rfl rfl rfl rfl <| .nil <| .seq <| .reg <| .build (cs := [_, _]) rfl rfl rfl <| .new rfl <| .stA rfl rfl rfl rfl rfl rfl <| .nil <| .seq <| .seq <| .reg <| .mv rfl rfl <| .nil <| .block <| ?_
    refine RA.loopI fun T0 hT0 nT0 eT0 => ?_
    have L0 : ∀ (post pre : List Tr) (out : Mn) (Q : Qst), M.ts = pre ++ post → out.ts.length ≤ pre.length * 10000 → out.cs.length ≤ pre.length * 10000 → (⟨out.ts ++ (catGo (fun _ => drainG n) M.cs post pre.length).ts, out.cs ++ (catGo (fun _ => drainG n) M.cs post pre.length).cs⟩ : Mn) = catGo (fun _ => drainG n) M.cs M.ts 0 → Q (Mn.o (drainF (catGo (fun _ => drainG n) M.cs M.ts 0))) [] → RA Y a171 T0 [(2, .elt 0 0 0), (3, .elt 1 0 0), (4, .elt 2 0 0), (5, i64 pre.length)] [(0, .box [.emp, .emp]), (1, .box [.row 3, .row 4]), (2, .box [.row 5, .row 6]), (3, .row false 5 0 (M.ts.map Tr.e)), (4, .row true 1 0 (M.cs.map Ic)), (5, .row false 5 0 (out.ts.map Tr.e)), (6, .row true 1 0 (out.cs.map Ic))] 7 Q := by
      intro post
      induction post with
      | nil =>
        intro pre out Q hc ho1 ho2 hP hQ
        have hl : M.ts.length = pre.length := by simp [hc]
        have hPe : catGo (fun _ => drainG n) M.cs M.ts 0 = out := by rw [← hP]; simp [catGo]
        rw [hPe] at hQ hP1 hP2 hP5 hP6 hP7
        have hP8 := wfL_len hP1
        have hd5 : out.cs.length + 1 = out.ts.length := by simpa using hP7
        rw [eT0]
        refine .seq <| .seq <| .reg <| .mv rfl rfl <| .fa rfl rfl <| .ldE rfl rfl rfl rfl <| .len rfl rfl rfl <| .lssF rfl rfl rfl (by omega) <| .nil <| .condF rfl <| .exit rfl <| .seq <| .seq <| .reg <| .fa rfl rfl <| .ldE rfl rfl rfl rfl <| .len rfl rfl rfl <| .gtr rfl rfl rfl (fun h3 => ?_) (fun h3 => ?_)
        · rw [show drainF out = pack out by unfold drainF; rw [if_pos (by omega)]] at hQ
          refine .nil <| .condT rfl <| .seq <| .reg <| .aE rfl rfl rfl rfl <| .cz rfl rfl rfl (s_l4Pack out (by omega) hd5 (by omega)) .refl rfl rfl rfl (by decide) <| .stA rfl rfl rfl rfl rfl rfl <| .nil <| .ret rfl hQ (.agg2 (.ox rfl (by first | exact fun _ => rfl | exact fun h => by cases h)) (.ox rfl (by first | exact fun _ => rfl | exact fun h => by cases h))) LeBs.refl
        · rw [show drainF out = ⟨[nodeT out.cs out.ts []], []⟩ by unfold drainF; rw [if_neg (by omega)]] at hQ
          refine .nil <| .condF rfl <| .skip <| .seq <| .reg <| .fa rfl rfl <| .ldE rfl rfl rfl rfl <| .fa rfl rfl <| .ldE rfl rfl rfl rfl <| .build (cs := [_, _, _, _, _]) rfl rfl rfl <| .row1 (qs := [_, _, _, _, _]) (u := [_, _]) rfl rfl rfl rfl rfl rfl rfl rfl <| .build (cs := [_, _]) rfl rfl rfl <| .stA rfl rfl rfl rfl rfl rfl <| .nil <| .ret rfl hQ (.agg2 (.one (fun h => by cases h) rfl (leTr rfl .emp (.rx (fun _ => rfl) rfl) (.kx rfl) .emp)) .empO) LeBs.refl
      | cons a post ih =>
        intro pre out Q hc ho1 ho2 hP hQ
        have hl : M.ts.length = pre.length + post.length + 1 := by simp [hc]; omega
        have ha : M.ts[pre.length]? = some a := by simp [hc]
        have hwf := hM1.2.2 a (by simp [hc])
        have haw : a.w ≤ Tr.wL M.ts := Tr.wL_mem (by simp [hc])
        obtain ⟨⟨hx1, hx2, hx3⟩, hx4⟩ := drainG_wf n a hwf
        have hx5 := wfL_len hx3
        rw [eT0]
        refine .seq <| .seq <| .reg <| .mv rfl rfl <| .fa rfl rfl <| .ldE rfl rfl rfl rfl <| .len rfl rfl rfl <| .lssT rfl rfl rfl (by omega) <| .nil <| .condT rfl <| .skip <| .seq <| .block <| .seq <| .reg <| .fa rfl rfl <| .ldE rfl rfl rfl rfl <| .mv rfl rfl <| .iaR rfl rfl rfl rfl (by rw [List.length_map]; omega) <| .aR rfl rfl rfl (by rw [List.getElem?_map, ha]; rfl) rfl <| .cz rfl rfl rfl (HD a hwf (by omega)) .refl rfl rfl rfl (by decide) <| .new rfl <| .stA rfl rfl rfl rfl rfl rfl <| .nil <| .seq <| .seq <| .reg <| .mv rfl rfl <| .gtr rfl rfl rfl (fun h3 => ?_) (fun h3 => ?_)
        · obtain ⟨c, hcc⟩ : ∃ c, M.cs[pre.length - 1]? = some c := ⟨_, getD_at (by omega)⟩
          have hcc' : M.cs[((pre.length : Int) - 1).toNat]? = some c := by rw [show ((pre.length : Int) - 1).toNat = pre.length - 1 by omega]; exact hcc
          have hcg : M.cs.getD (pre.length - 1) 0 = c := by simp [List.getD, hcc]
          refine .nil <| .condT rfl <| .regD <| .fa rfl rfl <| .ldE rfl rfl rfl rfl <| .fa rfl rfl <| .ldE rfl rfl rfl rfl <| .mv rfl rfl <| .sub rfl rfl rfl (by omega) <| .iaRI rfl rfl rfl rfl (by omega) (by rw [List.length_map]; omega) <| .ldR rfl rfl rfl (by rw [List.getElem?_map, hcc']; rfl) rfl <| .row1P rfl rfl rfl rfl rfl rfl rfl rfl <| .ap rfl rfl rfl rfl rfl (by simp; omega) (by decide) <| .fa rfl rfl <| .st1 rfl rfl rfl rfl rfl (of_decide_eq_true rfl) <| .nil (by kernel_rfl) <| .seq <| .reg <| .fa rfl rfl <| .ldE rfl rfl rfl rfl <| .fa rfl rfl <| .ldE rfl rfl rfl rfl <| .ap rfl rfl rfl rfl rfl (by simp; omega) (by decide) <| .fa rfl rfl <| .st1 rfl rfl rfl rfl rfl (of_decide_eq_true rfl) <| .nil <| .reg <| .fa rfl rfl <| .ldE rfl rfl rfl rfl <| .fa rfl rfl <| .ldE rfl rfl rfl rfl <| .ap rfl rfl rfl rfl rfl (by simp; omega) (by decide) <| .fa rfl rfl <| .st1 rfl rfl rfl rfl rfl (of_decide_eq_true rfl) <| .nil <| .inBlock <| .reg <| .mv rfl rfl <| .add rfl rfl rfl (by omega) <| .mv rfl rfl <| .nil <| hT0 <| ?_
          exact RA.wr [_, _, _, _, _, _, _] (ih (pre ++ [a]) ⟨out.ts ++ (drainG n a).ts, (out.cs ++ [c]) ++ (drainG n a).cs⟩ _ (by simp [hc]) (by simp only [List.length_append, List.length_cons, List.length_nil]; omega) (by simp only [List.length_append, List.length_cons, List.length_nil]; omega) (by rw [← hP]; simp only [catGo]; rw [if_neg (by omega), hcg]; simp only [List.append_assoc, List.cons_append, List.nil_append, List.append_nil, List.length_append, List.length_cons, List.length_nil, Nat.zero_add]) hQ) nT0 (hm := by exact .b rfl rfl (.same rfl) <| .b rfl rfl (.box2 (.row rfl) (.row rfl)) <| .b rfl rfl (.box2 (.row rfl) (.row rfl)) <| .r rfl rfl (fun h => by cases h) <| .r rfl rfl (fun _ => rfl) <| .r rfl rfl (fun h => by cases h) <| .r rfl rfl (fun _ => rfl) .nil)
        · refine .nil <| .condF rfl <| .skip <| .seq <| .reg <| .fa rfl rfl <| .ldE rfl rfl rfl rfl <| .fa rfl rfl <| .ldE rfl rfl rfl rfl <| .ap rfl rfl rfl rfl rfl (by simp; omega) (by decide) <| .fa rfl rfl <| .st1 rfl rfl rfl rfl rfl (of_decide_eq_true rfl) <| .nil <| .reg <| .fa rfl rfl <| .ldE rfl rfl rfl rfl <| .fa rfl rfl <| .ldE rfl rfl rfl rfl <| .ap rfl rfl rfl rfl rfl (by simp; omega) (by decide) <| .fa rfl rfl <| .st1 rfl rfl rfl rfl rfl (of_decide_eq_true rfl) <| .nil <| .inBlock <| .reg <| .mv rfl rfl <| .add rfl rfl rfl (by omega) <| .mv rfl rfl <| .nil <| hT0 <| ?_
          exact RA.wr [_, _, _, _, _, _, _] (ih (pre ++ [a]) ⟨out.ts ++ (drainG n a).ts, out.cs ++ (drainG n a).cs⟩ _ (by simp [hc]) (by simp only [List.length_append, List.length_cons, List.length_nil]; omega) (by simp only [List.length_append, List.length_cons, List.length_nil]; omega) (by rw [← hP]; simp only [catGo]; rw [if_pos (by omega)]; simp only [List.append_assoc, List.cons_append, List.nil_append, List.append_nil, List.length_append, List.length_cons, List.length_nil, Nat.zero_add]) hQ) nT0 (hm := by exact .b rfl rfl (.same rfl) <| .b rfl rfl (.box2 (.row rfl) (.row rfl)) <| .b rfl rfl (.box2 (.row rfl) (.row rfl)) <| .r rfl rfl (fun h => by cases h) <| .r rfl rfl (fun _ => rfl) <| .r rfl rfl (fun h => by cases h) <| .r rfl rfl (fun _ => rfl) .nil)
    refine RA.freshT 4 0 5 nT0 rfl rfl rfl (RA.freshT 4 1 1 nT0 rfl rfl rfl ?_)
    exact RA.wr [_, _, _, _, _, _, _] (L0 M.ts [] ⟨[], []⟩ _ rfl (by simp) (by simp) (by rfl) hQ) nT0 (hm := by exact .b rfl rfl (.same rfl) <| .b rfl rfl (.box2 (.row rfl) (.row rfl)) <| .b rfl rfl (.box2 (.row rfl) (.row rfl)) <| .r rfl rfl (fun h => by cases h) <| .r rfl rfl (fun _ => rfl) <| .x rfl rfl rfl (fun h => by cases h) <| .x rfl rfl rfl (fun _ => rfl) .nil)
theorem s_l4Drain : ∀ (n : Nat) (t : Tr), Wf n t → t.w ≤ 10000 → RF Y 171 [.agg t.e] (Mn.o (drainG n t)) []
  | 0, _, h, _ => h.elim
  | n + 1, t, h, hw => s_l4DrainS n t (s_l4Drain n) h hw
theorem s_Inject1 (t : Tr) (m : Ms) (h : t.sz ≤ 1000000) (hw : treeOk t = true → t.w + 2 ≤ 10000) (hg : (give (tdepth t) t [m]).ts.length ≤ 4) : RF Y 146 [.agg t.e, .agg (Ms.c m)] (Tr.o (inject t m)) [] := by
  refine RF.s2 rfl rfl rfl fun Q hQ => ?_
  refine .seq <| .reg <| .box rfl rfl rfl <| .box rfl rfl rfl <| .new rfl <| .nil <| .seq <| .seq <| .reg <| .aE rfl rfl rfl rfl <| .c rfl rfl rfl (s_TreeOk t h) .refl rfl rfl rfl (by decide) <| .bB (fun h1 => ?_) (fun h1 => ?_)
  · refine .notT rfl rfl <| .mv rfl rfl <| .g rfl rfl <| .aE rfl rfl rfl rfl <| .g rfl rfl <| .c rfl rfl rfl (s_MsgOk m) .refl rfl rfl rfl (by decide) <| .bB (fun h2 => ?_) (fun h2 => ?_)
    · refine .g rfl rfl <| .notT rfl rfl <| .pickF rfl rfl rfl <| .mv rfl rfl <| .g rfl rfl <| .fa rfl rfl <| .g rfl rfl <| .ldE rfl rfl rfl rfl <| .g rfl rfl <| .eql rfl rfl rfl (fun h3 => ?_) (fun h3 => ?_)
      · rw [show inject t m = t by unfold inject; rw [if_neg (by simp; omega)]] at hQ
        refine .pickF rfl rfl rfl <| .nil <| .condT rfl <| .seq <| .reg <| .aE rfl rfl rfl rfl <| .cz rfl rfl rfl (s_l2Copy t h) .refl rfl rfl rfl (by decide) <| .stA rfl rfl rfl rfl rfl rfl <| .nil <| .ret rfl hQ (.agg5 .r (.ox rfl (by first | exact fun _ => rfl | exact fun h => by cases h)) (.ox rfl (by first | exact fun _ => rfl | exact fun h => by cases h)) (.ox rfl (by first | exact fun _ => rfl | exact fun h => by cases h)) (.ox rfl (by first | exact fun _ => rfl | exact fun h => by cases h))) LeBs.refl
      · obtain ⟨hT1, hT2, hT3⟩ := treeOk_wf h1
        have hw := hw h1
        obtain ⟨hG1, hG2⟩ := give_wf (tdepth t) t [m] hT1
        obtain ⟨⟨n', hR1⟩, hR2⟩ := root_wf (show 0 < tdepth t from hT2) hG1
        have hR3 := hR1.sz
        have hG3 := wfL_len hG1.2.2
        rw [List.length_singleton] at hG2
        refine .pickF rfl rfl rfl <| .nil <| .condF rfl <| .skip <| .seq <| .regD <| .aE rfl rfl rfl rfl <| .cz rfl rfl rfl (s_l2Copy t h) .refl rfl rfl rfl (by decide) <| .aE rfl rfl rfl rfl <| .row1P rfl rfl rfl rfl rfl rfl rfl rfl <| .cz rfl rfl rfl (s_l4Give (tdepth t) t [m] hT1 (by rw [List.length_singleton]; omega)) (.c (.trF _) (.c (.fz (.rw (fun h => h))) .n)) rfl rfl rfl (by decide) <| .cz rfl rfl rfl (s_l4Root1 (give (tdepth t) t [m]) hg) .refl rfl rfl rfl (by decide) <| .new rfl <| .stA rfl rfl rfl rfl rfl rfl <| .nil (by kernel_rfl) <| .seq <| .seq <| .reg <| .aE rfl rfl rfl rfl <| .c rfl rfl rfl (s_TreeOk (root (give (tdepth t) t [m])) (by omega)) .refl rfl rfl rfl (by decide) <| .bB (fun h4 => ?_) (fun h4 => ?_)
        · rw [show inject t m = root (give (tdepth t) t [m]) by unfold inject; rw [if_pos ⟨h1, h2, by omega⟩, if_pos h4]] at hQ
          refine .notT rfl rfl <| .nil <| .condF rfl <| .skip <| .seq <| .reg <| .aE rfl rfl rfl rfl <| .cz rfl rfl rfl (s_l2Copy (root (give (tdepth t) t [m])) (by omega)) .refl rfl rfl rfl (by decide) <| .stA rfl rfl rfl rfl rfl rfl <| .nil <| .ret rfl hQ (.agg5 .r (.ox rfl (by first | exact fun _ => rfl | exact fun h => by cases h)) (.ox rfl (by first | exact fun _ => rfl | exact fun h => by cases h)) (.ox rfl (by first | exact fun _ => rfl | exact fun h => by cases h)) (.ox rfl (by first | exact fun _ => rfl | exact fun h => by cases h))) LeBs.refl
        · rw [show inject t m = t by unfold inject; rw [if_pos ⟨h1, h2, by omega⟩, if_neg (by simp [h4])]] at hQ
          refine .notF rfl rfl <| .nil <| .condT rfl <| .seq <| .reg <| .aE rfl rfl rfl rfl <| .cz rfl rfl rfl (s_l2Copy t h) .refl rfl rfl rfl (by decide) <| .stA rfl rfl rfl rfl rfl rfl <| .nil <| .ret rfl hQ (.agg5 .r (.ox rfl (by first | exact fun _ => rfl | exact fun h => by cases h)) (.ox rfl (by first | exact fun _ => rfl | exact fun h => by cases h)) (.ox rfl (by first | exact fun _ => rfl | exact fun h => by cases h)) (.ox rfl (by first | exact fun _ => rfl | exact fun h => by cases h))) LeBs.refl
    · rw [show inject t m = t by unfold inject; rw [if_neg (by simp [h2])]] at hQ
      refine .g rfl rfl <| .notF rfl rfl <| .pickF rfl rfl rfl <| .mv rfl rfl <| .gs rfl rfl rfl <| .gs rfl rfl rfl <| .gs rfl rfl rfl <| .pickT rfl rfl rfl <| .nil <| .condT rfl <| .seq <| .reg <| .aE rfl rfl rfl rfl <| .cz rfl rfl rfl (s_l2Copy t h) .refl rfl rfl rfl (by decide) <| .stA rfl rfl rfl rfl rfl rfl <| .nil <| .ret rfl hQ (.agg5 .r (.ox rfl (by first | exact fun _ => rfl | exact fun h => by cases h)) (.ox rfl (by first | exact fun _ => rfl | exact fun h => by cases h)) (.ox rfl (by first | exact fun _ => rfl | exact fun h => by cases h)) (.ox rfl (by first | exact fun _ => rfl | exact fun h => by cases h))) LeBs.refl
  · rw [show inject t m = t by unfold inject; rw [if_neg (by simp [h1])]] at hQ
    refine .notF rfl rfl <| .mv rfl rfl <| .gs rfl rfl rfl <| .gs rfl rfl rfl <| .gs rfl rfl rfl <| .pickT rfl rfl rfl <| .mv rfl rfl <| .gs rfl rfl rfl <| .gs rfl rfl rfl <| .gs rfl rfl rfl <| .pickT rfl rfl rfl <| .nil <| .condT rfl <| .seq <| .reg <| .aE rfl rfl rfl rfl <| .cz rfl rfl rfl (s_l2Copy t h) .refl rfl rfl rfl (by decide) <| .stA rfl rfl rfl rfl rfl rfl <| .nil <| .ret rfl hQ (.agg5 .r (.ox rfl (by first | exact fun _ => rfl | exact fun h => by cases h)) (.ox rfl (by first | exact fun _ => rfl | exact fun h => by cases h)) (.ox rfl (by first | exact fun _ => rfl | exact fun h => by cases h)) (.ox rfl (by first | exact fun _ => rfl | exact fun h => by cases h))) LeBs.refl
theorem s_Inject2 (t : Tr) (m : Ms) (h : t.sz ≤ 1000000) (hw : treeOk t = true → t.w + 2 ≤ 10000) (hg : ¬ (give (tdepth t) t [m]).ts.length ≤ 4) : RF Y 146 [.agg t.e, .agg (Ms.c m)] (Tr.o (inject t m)) [] := by
  refine RF.s2 rfl rfl rfl fun Q hQ => ?_
  refine .seq <| .reg <| .box rfl rfl rfl <| .box rfl rfl rfl <| .new rfl <| .nil <| .seq <| .seq <| .reg <| .aE rfl rfl rfl rfl <| .c rfl rfl rfl (s_TreeOk t h) .refl rfl rfl rfl (by decide) <| .bB (fun h1 => ?_) (fun h1 => ?_)
  · refine .notT rfl rfl <| .mv rfl rfl <| .g rfl rfl <| .aE rfl rfl rfl rfl <| .g rfl rfl <| .c rfl rfl rfl (s_MsgOk m) .refl rfl rfl rfl (by decide) <| .bB (fun h2 => ?_) (fun h2 => ?_)
    · refine .g rfl rfl <| .notT rfl rfl <| .pickF rfl rfl rfl <| .mv rfl rfl <| .g rfl rfl <| .fa rfl rfl <| .g rfl rfl <| .ldE rfl rfl rfl rfl <| .g rfl rfl <| .eql rfl rfl rfl (fun h3 => ?_) (fun h3 => ?_)
      · rw [show inject t m = t by unfold inject; rw [if_neg (by simp; omega)]] at hQ
        refine .pickF rfl rfl rfl <| .nil <| .condT rfl <| .seq <| .reg <| .aE rfl rfl rfl rfl <| .cz rfl rfl rfl (s_l2Copy t h) .refl rfl rfl rfl (by decide) <| .stA rfl rfl rfl rfl rfl rfl <| .nil <| .ret rfl hQ (.agg5 .r (.ox rfl (by first | exact fun _ => rfl | exact fun h => by cases h)) (.ox rfl (by first | exact fun _ => rfl | exact fun h => by cases h)) (.ox rfl (by first | exact fun _ => rfl | exact fun h => by cases h)) (.ox rfl (by first | exact fun _ => rfl | exact fun h => by cases h))) LeBs.refl
      · obtain ⟨hT1, hT2, hT3⟩ := treeOk_wf h1
        have hw := hw h1
        obtain ⟨hG1, hG2⟩ := give_wf (tdepth t) t [m] hT1
        obtain ⟨⟨n', hR1⟩, hR2⟩ := root_wf (show 0 < tdepth t from hT2) hG1
        have hR3 := hR1.sz
        have hG3 := wfL_len hG1.2.2
        rw [List.length_singleton] at hG2
        refine .pickF rfl rfl rfl <| .nil <| .condF rfl <| .skip <| .seq <| .regD <| .aE rfl rfl rfl rfl <| .cz rfl rfl rfl (s_l2Copy t h) .refl rfl rfl rfl (by decide) <| .aE rfl rfl rfl rfl <| .row1P rfl rfl rfl rfl rfl rfl rfl rfl <| .cz rfl rfl rfl (s_l4Give (tdepth t) t [m] hT1 (by rw [List.length_singleton]; omega)) (.c (.trF _) (.c (.fz (.rw (fun h => h))) .n)) rfl rfl rfl (by decide) <| .cz rfl rfl rfl (s_l4Root2 (tdepth t) (give (tdepth t) t [m]) hT2 hG1 hg (by omega)) .refl rfl rfl rfl (by decide) <| .new rfl <| .stA rfl rfl rfl rfl rfl rfl <| .nil (by kernel_rfl) <| .seq <| .seq <| .reg <| .aE rfl rfl rfl rfl <| .c rfl rfl rfl (s_TreeOk (root (give (tdepth t) t [m])) (by omega)) (.c (.trF _) .n) rfl rfl rfl (by decide) <| .bB (fun h4 => ?_) (fun h4 => ?_)
        · rw [show inject t m = root (give (tdepth t) t [m]) by unfold inject; rw [if_pos ⟨h1, h2, by omega⟩, if_pos h4]] at hQ
          refine .notT rfl rfl <| .nil <| .condF rfl <| .skip <| .seq <| .reg <| .aE rfl rfl rfl rfl <| .cz rfl rfl rfl (s_l2Copy (root (give (tdepth t) t [m])) (by omega)) (.c (.trF _) .n) rfl rfl rfl (by decide) <| .stA rfl rfl rfl rfl rfl rfl <| .nil <| .ret rfl hQ (.agg5 .r (.ox rfl (by first | exact fun _ => rfl | exact fun h => by cases h)) (.ox rfl (by first | exact fun _ => rfl | exact fun h => by cases h)) (.ox rfl (by first | exact fun _ => rfl | exact fun h => by cases h)) (.ox rfl (by first | exact fun _ => rfl | exact fun h => by cases h))) LeBs.refl
        · rw [show inject t m = t by unfold inject; rw [if_pos ⟨h1, h2, by omega⟩, if_neg (by simp [h4])]] at hQ
          refine .notF rfl rfl <| .nil <| .condT rfl <| .seq <| .reg <| .aE rfl rfl rfl rfl <| .cz rfl rfl rfl (s_l2Copy t h) .refl rfl rfl rfl (by decide) <| .stA rfl rfl rfl rfl rfl rfl <| .nil <| .ret rfl hQ (.agg5 .r (.ox rfl (by first | exact fun _ => rfl | exact fun h => by cases h)) (.ox rfl (by first | exact fun _ => rfl | exact fun h => by cases h)) (.ox rfl (by first | exact fun _ => rfl | exact fun h => by cases h)) (.ox rfl (by first | exact fun _ => rfl | exact fun h => by cases h))) LeBs.refl
    · rw [show inject t m = t by unfold inject; rw [if_neg (by simp [h2])]] at hQ
      refine .g rfl rfl <| .notF rfl rfl <| .pickF rfl rfl rfl <| .mv rfl rfl <| .gs rfl rfl rfl <| .gs rfl rfl rfl <| .gs rfl rfl rfl <| .pickT rfl rfl rfl <| .nil <| .condT rfl <| .seq <| .reg <| .aE rfl rfl rfl rfl <| .cz rfl rfl rfl (s_l2Copy t h) .refl rfl rfl rfl (by decide) <| .stA rfl rfl rfl rfl rfl rfl <| .nil <| .ret rfl hQ (.agg5 .r (.ox rfl (by first | exact fun _ => rfl | exact fun h => by cases h)) (.ox rfl (by first | exact fun _ => rfl | exact fun h => by cases h)) (.ox rfl (by first | exact fun _ => rfl | exact fun h => by cases h)) (.ox rfl (by first | exact fun _ => rfl | exact fun h => by cases h))) LeBs.refl
  · rw [show inject t m = t by unfold inject; rw [if_neg (by simp [h1])]] at hQ
    refine .notF rfl rfl <| .mv rfl rfl <| .gs rfl rfl rfl <| .gs rfl rfl rfl <| .gs rfl rfl rfl <| .pickT rfl rfl rfl <| .mv rfl rfl <| .gs rfl rfl rfl <| .gs rfl rfl rfl <| .gs rfl rfl rfl <| .pickT rfl rfl rfl <| .nil <| .condT rfl <| .seq <| .reg <| .aE rfl rfl rfl rfl <| .cz rfl rfl rfl (s_l2Copy t h) .refl rfl rfl rfl (by decide) <| .stA rfl rfl rfl rfl rfl rfl <| .nil <| .ret rfl hQ (.agg5 .r (.ox rfl (by first | exact fun _ => rfl | exact fun h => by cases h)) (.ox rfl (by first | exact fun _ => rfl | exact fun h => by cases h)) (.ox rfl (by first | exact fun _ => rfl | exact fun h => by cases h)) (.ox rfl (by first | exact fun _ => rfl | exact fun h => by cases h))) LeBs.refl
theorem s_Inject (t : Tr) (m : Ms) (h : t.sz ≤ 1000000) (hw : treeOk t = true → t.w + 2 ≤ 10000) : RF Y 146 [.agg t.e, .agg (Ms.c m)] (Tr.o (inject t m)) [] := by
  by_cases hg : (give (tdepth t) t [m]).ts.length ≤ 4
  · exact s_Inject1 t m h hw hg
  · exact s_Inject2 t m h hw hg
theorem s_Drain1 (t : Tr) (h : t.sz ≤ 1000000) (hw : treeOk t = true → t.w ≤ 10000) (hg : (drainG (tdepth t) t).ts.length ≤ 4) : RF Y 148 [.agg t.e] (Tr.o (drain t)) [] := by
  refine RF.s1 rfl rfl rfl fun Q hQ => ?_
  refine .seq <| .reg <| .box rfl rfl rfl <| .new rfl <| .nil <| .seq <| .seq <| .reg <| .aE rfl rfl rfl rfl <| .c rfl rfl rfl (s_TreeOk t h) .refl rfl rfl rfl (by decide) <| .bB (fun h1 => ?_) (fun h1 => ?_)
  · obtain ⟨hT1, hT2, hT3⟩ := treeOk_wf h1
    have hw := hw h1
    obtain ⟨hG1, hG2⟩ := drainG_wf (tdepth t) t hT1
    obtain ⟨⟨n', hR1⟩, hR2⟩ := root_wf (show 0 < tdepth t from hT2) hG1
    have hR3 := hR1.sz
    have hG3 := wfL_len hG1.2.2
    refine .notT rfl rfl <| .nil <| .condF rfl <| .skip <| .seq <| .reg <| .aE rfl rfl rfl rfl <| .cz rfl rfl rfl (s_l2Copy t h) .refl rfl rfl rfl (by decide) <| .cz rfl rfl rfl (s_l4Drain (tdepth t) t hT1 hw) (.c (.trF _) .n) rfl rfl rfl (by decide) <| .cz rfl rfl rfl (s_l4Root1 (drainG (tdepth t) t) hg) .refl rfl rfl rfl (by decide) <| .new rfl <| .stA rfl rfl rfl rfl rfl rfl <| .nil <| .seq <| .seq <| .reg <| .aE rfl rfl rfl rfl <| .c rfl rfl rfl (s_TreeOk (root (drainG (tdepth t) t)) (by omega)) .refl rfl rfl rfl (by decide) <| .bB (fun h2 => ?_) (fun h2 => ?_)
    · rw [show drain t = root (drainG (tdepth t) t) by unfold drain; rw [if_pos h1, if_pos h2]] at hQ
      refine .notT rfl rfl <| .nil <| .condF rfl <| .skip <| .seq <| .reg <| .aE rfl rfl rfl rfl <| .cz rfl rfl rfl (s_l2Copy (root (drainG (tdepth t) t)) (by omega)) .refl rfl rfl rfl (by decide) <| .stA rfl rfl rfl rfl rfl rfl <| .nil <| .ret rfl hQ (.agg5 .r (.ox rfl (by first | exact fun _ => rfl | exact fun h => by cases h)) (.ox rfl (by first | exact fun _ => rfl | exact fun h => by cases h)) (.ox rfl (by first | exact fun _ => rfl | exact fun h => by cases h)) (.ox rfl (by first | exact fun _ => rfl | exact fun h => by cases h))) LeBs.refl
    · rw [show drain t = t by unfold drain; rw [if_pos h1, if_neg (by simp [h2])]] at hQ
      refine .notF rfl rfl <| .nil <| .condT rfl <| .seq <| .reg <| .aE rfl rfl rfl rfl <| .cz rfl rfl rfl (s_l2Copy t h) .refl rfl rfl rfl (by decide) <| .stA rfl rfl rfl rfl rfl rfl <| .nil <| .ret rfl hQ (.agg5 .r (.ox rfl (by first | exact fun _ => rfl | exact fun h => by cases h)) (.ox rfl (by first | exact fun _ => rfl | exact fun h => by cases h)) (.ox rfl (by first | exact fun _ => rfl | exact fun h => by cases h)) (.ox rfl (by first | exact fun _ => rfl | exact fun h => by cases h))) LeBs.refl
  · rw [show drain t = t by unfold drain; rw [if_neg (by simp [h1])]] at hQ
    refine .notF rfl rfl <| .nil <| .condT rfl <| .seq <| .reg <| .aE rfl rfl rfl rfl <| .cz rfl rfl rfl (s_l2Copy t h) .refl rfl rfl rfl (by decide) <| .stA rfl rfl rfl rfl rfl rfl <| .nil <| .ret rfl hQ (.agg5 .r (.ox rfl (by first | exact fun _ => rfl | exact fun h => by cases h)) (.ox rfl (by first | exact fun _ => rfl | exact fun h => by cases h)) (.ox rfl (by first | exact fun _ => rfl | exact fun h => by cases h)) (.ox rfl (by first | exact fun _ => rfl | exact fun h => by cases h))) LeBs.refl
theorem s_Drain2 (t : Tr) (h : t.sz ≤ 1000000) (hw : treeOk t = true → t.w ≤ 10000) (hg : ¬ (drainG (tdepth t) t).ts.length ≤ 4) : RF Y 148 [.agg t.e] (Tr.o (drain t)) [] := by
  refine RF.s1 rfl rfl rfl fun Q hQ => ?_
  refine .seq <| .reg <| .box rfl rfl rfl <| .new rfl <| .nil <| .seq <| .seq <| .reg <| .aE rfl rfl rfl rfl <| .c rfl rfl rfl (s_TreeOk t h) .refl rfl rfl rfl (by decide) <| .bB (fun h1 => ?_) (fun h1 => ?_)
  · obtain ⟨hT1, hT2, hT3⟩ := treeOk_wf h1
    have hw := hw h1
    obtain ⟨hG1, hG2⟩ := drainG_wf (tdepth t) t hT1
    obtain ⟨⟨n', hR1⟩, hR2⟩ := root_wf (show 0 < tdepth t from hT2) hG1
    have hR3 := hR1.sz
    have hG3 := wfL_len hG1.2.2
    refine .notT rfl rfl <| .nil <| .condF rfl <| .skip <| .seq <| .reg <| .aE rfl rfl rfl rfl <| .cz rfl rfl rfl (s_l2Copy t h) .refl rfl rfl rfl (by decide) <| .cz rfl rfl rfl (s_l4Drain (tdepth t) t hT1 hw) (.c (.trF _) .n) rfl rfl rfl (by decide) <| .cz rfl rfl rfl (s_l4Root2 (tdepth t) (drainG (tdepth t) t) hT2 hG1 hg (by omega)) .refl rfl rfl rfl (by decide) <| .new rfl <| .stA rfl rfl rfl rfl rfl rfl <| .nil <| .seq <| .seq <| .reg <| .aE rfl rfl rfl rfl <| .c rfl rfl rfl (s_TreeOk (root (drainG (tdepth t) t)) (by omega)) (.c (.trF _) .n) rfl rfl rfl (by decide) <| .bB (fun h2 => ?_) (fun h2 => ?_)
    · rw [show drain t = root (drainG (tdepth t) t) by unfold drain; rw [if_pos h1, if_pos h2]] at hQ
      refine .notT rfl rfl <| .nil <| .condF rfl <| .skip <| .seq <| .reg <| .aE rfl rfl rfl rfl <| .cz rfl rfl rfl (s_l2Copy (root (drainG (tdepth t) t)) (by omega)) (.c (.trF _) .n) rfl rfl rfl (by decide) <| .stA rfl rfl rfl rfl rfl rfl <| .nil <| .ret rfl hQ (.agg5 .r (.ox rfl (by first | exact fun _ => rfl | exact fun h => by cases h)) (.ox rfl (by first | exact fun _ => rfl | exact fun h => by cases h)) (.ox rfl (by first | exact fun _ => rfl | exact fun h => by cases h)) (.ox rfl (by first | exact fun _ => rfl | exact fun h => by cases h))) LeBs.refl
    · rw [show drain t = t by unfold drain; rw [if_pos h1, if_neg (by simp [h2])]] at hQ
      refine .notF rfl rfl <| .nil <| .condT rfl <| .seq <| .reg <| .aE rfl rfl rfl rfl <| .cz rfl rfl rfl (s_l2Copy t h) .refl rfl rfl rfl (by decide) <| .stA rfl rfl rfl rfl rfl rfl <| .nil <| .ret rfl hQ (.agg5 .r (.ox rfl (by first | exact fun _ => rfl | exact fun h => by cases h)) (.ox rfl (by first | exact fun _ => rfl | exact fun h => by cases h)) (.ox rfl (by first | exact fun _ => rfl | exact fun h => by cases h)) (.ox rfl (by first | exact fun _ => rfl | exact fun h => by cases h))) LeBs.refl
  · rw [show drain t = t by unfold drain; rw [if_neg (by simp [h1])]] at hQ
    refine .notF rfl rfl <| .nil <| .condT rfl <| .seq <| .reg <| .aE rfl rfl rfl rfl <| .cz rfl rfl rfl (s_l2Copy t h) .refl rfl rfl rfl (by decide) <| .stA rfl rfl rfl rfl rfl rfl <| .nil <| .ret rfl hQ (.agg5 .r (.ox rfl (by first | exact fun _ => rfl | exact fun h => by cases h)) (.ox rfl (by first | exact fun _ => rfl | exact fun h => by cases h)) (.ox rfl (by first | exact fun _ => rfl | exact fun h => by cases h)) (.ox rfl (by first | exact fun _ => rfl | exact fun h => by cases h))) LeBs.refl
theorem s_Drain (t : Tr) (h : t.sz ≤ 1000000) (hw : treeOk t = true → t.w ≤ 10000) : RF Y 148 [.agg t.e] (Tr.o (drain t)) [] := by
  by_cases hg : (drainG (tdepth t) t).ts.length ≤ 4
  · exact s_Drain1 t h hw hg
  · exact s_Drain2 t h hw hg
end Go.Proofs.Ytjjocahgbmibeaa
