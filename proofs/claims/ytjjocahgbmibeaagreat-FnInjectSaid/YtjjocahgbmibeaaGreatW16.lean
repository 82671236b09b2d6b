/- Walks: a message to a tree (the program). -/
import Derived.Test.YtjjocahgbmibeaaGreatW15
namespace Go.Proofs.YtjjocahgbmibeaaGreat
open Go.Eng
set_option maxRecDepth 4000
set_option linter.unusedSimpArgs false
set_option linter.unusedVariables false
theorem Ch.same {d : Nat} {lo hi : Int} {m : Mn} (h : Ch (R d) lo hi m.ts m.cs) : ∀ k, cntK k m.cs = kidP k m.cs := fun k => cnt_kid k m.cs lo h.srt
theorem Ch.mine {d : Nat} {lo hi : Int} {m : Mn} {buf : List Ms} {i : Nat} {a : Tr} (hm : Ch (R d) lo hi m.ts m.cs) (hb : ∀ x, x ∈ buf → bufOk lo hi x = true) (ha : m.ts[i]? = some a) : ∃ lo' hi', R d a lo' hi' ∧ ∀ x, x ∈ mine m.cs i buf → bufOk lo' hi' x = true := by
  obtain ⟨lo', hi', r1, r2, r3, r4, _⟩ := hm.at ha
  refine ⟨lo', hi', r1, fun x hx => ?_⟩
  obtain ⟨h1, h2⟩ := mine_mem hx
  obtain ⟨c1, c2, c3, c4⟩ := bufOk_in (hb x h1)
  have := (r4 x.k c3 c4).1 h2
  exact bufOk_mk c1 c2 this.1 this.2
theorem i_down (n : Nat) (lo hi : Int) (m : Mn) (buf : List Ms) (HG : ∀ (t : Tr) (ms : List Ms) (lo hi : Int), R n t lo hi → (∀ x, x ∈ ms → bufOk lo hi x = true) → t.w + 2 * ms.length ≤ 10000 → RF Y 52 [.agg t.e, .fro true 3 (ms.map Ms.c)] (Mn.o (give n t ms)) []) (hm : Ch (R n) lo hi m.ts m.cs) (hb : (∀ x, x ∈ buf → bufOk lo hi x = true)) (hw : Tr.wL m.ts + 2 * buf.length ≤ 10000) : RF Y 113 [.agg (Mn.e m), .fro true 3 (buf.map Ms.c)] (Mn.o (down (give n) m buf)) [] := by
  refine RF.s2 rfl rfl rfl fun Q hQ => ?_
  have hml := wfL_len hm.wf.2.2
  have hmc := hm.wf.2.1
  have hs := hm.same
  refine .seq <| .reg <| .box rfl rfl rfl <| .new rfl <| .nil <| .seq <| .reg <| .build (cs := [_, _]) rfl rfl rfl <| .new rfl <| .stA rfl rfl rfl rfl rfl rfl <| .nil <| .seq <| .seq <| .reg <| .fa rfl rfl <| .ldE rfl rfl rfl rfl <| .len rfl rfl rfl <| .mv rfl rfl <| .nil <| .block <| ?_
  refine RA.loopI fun T0 hT0 nT0 eT0 => ?_
  have L0 : ∀ (post pre : List Tr) (out : Mn) (Q : Qst), m.ts = pre ++ post → out.ts.length ≤ pre.length * 10000 → out.cs.length ≤ pre.length * 10000 → Q (Mn.o ⟨out.ts ++ (catGo (downF (give n) m.cs buf) m.cs post pre.length).ts, out.cs ++ (catGo (downF (give n) m.cs buf) m.cs post pre.length).cs⟩) [] → RA Y a113 T0 [(1, .fro true 3 (buf.map Ms.c)), (2, .elt 0 0 0), (4, .elt 1 0 0), (5, .elt 2 0 0), (12, .fro false 5 (m.ts.map Tr.e)), (13, i64 m.ts.length), (14, i64 pre.length)] [(0, .box (Mn.e m)), (1, .box [.emp, .emp]), (2, .box [.row 3, .row 4]), (3, .row false 5 0 (out.ts.map Tr.e)), (4, .row true 1 0 (out.cs.map Ic))] 5 Q := by
    intro post
    induction post with
    | nil =>
      intro pre out Q hc ho1 ho2 hQ
      have hl : m.ts.length = pre.length := by simp [hc]
      simp only [catGo, List.append_nil] at hQ
      rw [eT0]
      refine .seq <| .reg <| .lssF rfl rfl rfl (by omega) <| .nil <| .seq <| .condF rfl <| .exit rfl <| .seq <| .reg <| .aE rfl rfl rfl rfl <| .stA rfl rfl rfl rfl rfl rfl <| .nil <| .ret rfl hQ (.agg2 (.ox (by simp) (by first | exact fun _ => rfl | exact fun h => by cases h)) (.ox (by simp) (by first | exact fun _ => rfl | exact fun h => by cases h))) LeBs.refl
    | cons a post ih =>
      intro pre out Q hc ho1 ho2 hQ
      have hl : m.ts.length = pre.length + post.length + 1 := by simp [hc]; omega
      have ha : m.ts[pre.length]? = some a := by simp [hc]
      obtain ⟨lo', hi', hR, hmb⟩ := hm.mine hb ha
      have hwf := hR.wf
      have haw : a.w ≤ Tr.wL m.ts := Tr.wL_mem (by simp [hc])
      have hmi := mine_rest m.cs pre.length buf
      obtain ⟨⟨hx1, hx2, hx3⟩, hx4⟩ := give_wf n a (mine m.cs pre.length buf) hwf
      have hx5 := wfL_len hx3
      rw [eT0]
      refine .seq <| .reg <| .lssT rfl rfl rfl (by omega) <| .nil <| .seq <| .condT rfl <| .skip <| .seq <| .block <| .seq <| .reg <| .mv rfl rfl <| .ia rfl rfl rfl (by assumption) <| .aF rfl rfl rfl <| .new rfl <| .mv rfl rfl <| .stA rfl rfl rfl rfl rfl rfl <| .nil <| .seq <| .reg <| .aE rfl rfl rfl rfl <| .row1P rfl rfl rfl rfl rfl rfl rfl rfl <| .build (cs := [_, _]) rfl rfl rfl <| .new rfl <| .stA rfl rfl rfl rfl rfl rfl <| .nil <| .seq <| .seq <| .reg <| .fa rfl rfl <| .ldE rfl rfl rfl rfl <| .mv rfl rfl <| .mv rfl rfl <| .c rfl rfl rfl (i_ofKid m.cs buf pre.length (by omega) (by omega) hs) .refl rfl rfl rfl (by decide) <| .mv rfl rfl <| .nil <| .seq <| .reg <| .mv rfl rfl <| .len rfl rfl rfl <| .gtr rfl rfl rfl (fun h2 => ?_) (fun h2 => ?_)
      · have hF : downF (give n) m.cs buf pre.length a = give n a (mine m.cs pre.length buf) := by unfold downF; rw [if_pos (by omega)]
        refine .nil <| .condT rfl <| .reg <| .aE rfl rfl rfl rfl <| .mv rfl rfl <| .cz rfl rfl rfl (HG a (mine m.cs pre.length buf) lo' hi' hR hmb (by omega)) .refl rfl rfl rfl (by decide) <| .stA rfl rfl rfl rfl rfl rfl <| .nil <| .seq <| .seq <| .reg <| .mv rfl rfl <| .gtr rfl rfl rfl (fun h3 => ?_) (fun h3 => ?_)
        · obtain ⟨c, hcc⟩ : ∃ c, m.cs[pre.length - 1]? = some c := ⟨_, getD_at (by have := hm.wf.2.1; omega)⟩
          have hcc' : m.cs[((pre.length : Int) - 1).toNat]? = some c := by rw [show ((pre.length : Int) - 1).toNat = pre.length - 1 by omega]; exact hcc
          have hcg : m.cs.getD (pre.length - 1) 0 = c := by simp [List.getD, hcc]
          refine .nil <| .condT rfl <| .regD <| .fa rfl rfl <| .ldE rfl rfl rfl rfl <| .fa rfl rfl <| .ldE rfl rfl rfl rfl <| .mv rfl rfl <| .sub rfl rfl rfl (by omega) <| .iaI rfl rfl rfl (by omega) (by assumption) <| .ldF rfl rfl rfl <| .row1P rfl rfl rfl rfl rfl rfl rfl rfl <| .ap rfl rfl rfl rfl rfl (by simp; omega) (by decide) <| .fa rfl rfl <| .st1 rfl rfl rfl rfl rfl (of_decide_eq_true rfl) <| .nil (by kernel_rfl) <| .seq <| .reg <| .fa rfl rfl <| .ldE rfl rfl rfl rfl <| .fa rfl rfl <| .ldE rfl rfl rfl rfl <| .ap rfl rfl rfl rfl rfl (by simp; omega) (by decide) <| .fa rfl rfl <| .st1 rfl rfl rfl rfl rfl (of_decide_eq_true rfl) <| .nil <| .reg <| .fa rfl rfl <| .ldE rfl rfl rfl rfl <| .fa rfl rfl <| .ldE rfl rfl rfl rfl <| .ap rfl rfl rfl rfl rfl (by simp; omega) (by decide) <| .fa rfl rfl <| .st1 rfl rfl rfl rfl rfl (of_decide_eq_true rfl) <| .nil <| .inBlock <| .reg <| .add rfl rfl rfl (by omega) <| .mv rfl rfl <| .nil <| hT0 <| ?_
          exact RA.wr [_, _, _, _, _] (ih (pre ++ [a]) ⟨out.ts ++ (give n a (mine m.cs pre.length buf)).ts, (out.cs ++ [c]) ++ (give n a (mine m.cs pre.length buf)).cs⟩ _ (by simp [hc]) (by simp only [List.length_append, List.length_cons, List.length_nil]; omega) (by simp only [List.length_append, List.length_cons, List.length_nil]; omega) (by simp only [catGo, hF] at hQ; rw [if_neg (by omega), hcg] at hQ; simp only [List.append_assoc, List.cons_append, List.nil_append, List.append_nil, List.length_append, List.length_cons, List.length_nil, Nat.zero_add] at hQ ⊢; exact hQ)) nT0 (hm := by exact .b rfl rfl (.same rfl) <| .b rfl rfl (.same rfl) <| .b rfl rfl (.box2 (.row rfl) (.row rfl)) <| .r rfl rfl (fun h => by cases h) <| .r rfl rfl (fun _ => rfl) .nil)
        · refine .nil <| .condF rfl <| .skip <| .seq <| .reg <| .fa rfl rfl <| .ldE rfl rfl rfl rfl <| .fa rfl rfl <| .ldE rfl rfl rfl rfl <| .ap rfl rfl rfl rfl rfl (by simp; omega) (by decide) <| .fa rfl rfl <| .st1 rfl rfl rfl rfl rfl (of_decide_eq_true rfl) <| .nil <| .reg <| .fa rfl rfl <| .ldE rfl rfl rfl rfl <| .fa rfl rfl <| .ldE rfl rfl rfl rfl <| .ap rfl rfl rfl rfl rfl (by simp; omega) (by decide) <| .fa rfl rfl <| .st1 rfl rfl rfl rfl rfl (of_decide_eq_true rfl) <| .nil <| .inBlock <| .reg <| .add rfl rfl rfl (by omega) <| .mv rfl rfl <| .nil <| hT0 <| ?_
          exact RA.wr [_, _, _, _, _] (ih (pre ++ [a]) ⟨out.ts ++ (give n a (mine m.cs pre.length buf)).ts, out.cs ++ (give n a (mine m.cs pre.length buf)).cs⟩ _ (by simp [hc]) (by simp only [List.length_append, List.length_cons, List.length_nil]; omega) (by simp only [List.length_append, List.length_cons, List.length_nil]; omega) (by simp only [catGo, hF] at hQ; rw [if_pos (by omega)] at hQ; simp only [List.append_assoc, List.cons_append, List.nil_append, List.append_nil, List.length_append, List.length_cons, List.length_nil, Nat.zero_add] at hQ ⊢; exact hQ)) nT0 (hm := by exact .b rfl rfl (.same rfl) <| .b rfl rfl (.same rfl) <| .b rfl rfl (.box2 (.row rfl) (.row rfl)) <| .r rfl rfl (fun h => by cases h) <| .r rfl rfl (fun _ => rfl) .nil)
      · have hF : downF (give n) m.cs buf pre.length a = ⟨[a], []⟩ := by unfold downF; rw [if_neg (by omega)]
        refine .nil <| .condF rfl <| .skip <| .seq <| .seq <| .reg <| .mv rfl rfl <| .gtr rfl rfl rfl (fun h4 => ?_) (fun h4 => ?_)
        · obtain ⟨c, hcc⟩ : ∃ c, m.cs[pre.length - 1]? = some c := ⟨_, getD_at (by have := hm.wf.2.1; omega)⟩
          have hcc' : m.cs[((pre.length : Int) - 1).toNat]? = some c := by rw [show ((pre.length : Int) - 1).toNat = pre.length - 1 by omega]; exact hcc
          have hcg : m.cs.getD (pre.length - 1) 0 = c := by simp [List.getD, hcc]
          refine .nil <| .condT rfl <| .regD <| .fa rfl rfl <| .ldE rfl rfl rfl rfl <| .fa rfl rfl <| .ldE rfl rfl rfl rfl <| .mv rfl rfl <| .sub rfl rfl rfl (by omega) <| .iaI rfl rfl rfl (by omega) (by assumption) <| .ldF rfl rfl rfl <| .row1P rfl rfl rfl rfl rfl rfl rfl rfl <| .ap rfl rfl rfl rfl rfl (by simp; omega) (by decide) <| .fa rfl rfl <| .st1 rfl rfl rfl rfl rfl (of_decide_eq_true rfl) <| .nil (by kernel_rfl) <| .seq <| .reg <| .fa rfl rfl <| .ldE rfl rfl rfl rfl <| .fa rfl rfl <| .ldE rfl rfl rfl rfl <| .ap rfl rfl rfl rfl rfl (by simp; omega) (by decide) <| .fa rfl rfl <| .st1 rfl rfl rfl rfl rfl (of_decide_eq_true rfl) <| .nil <| .reg <| .fa rfl rfl <| .ldE rfl rfl rfl rfl <| .fa rfl rfl <| .ldE rfl rfl rfl rfl <| .ap rfl rfl rfl rfl rfl (by simp; omega) (by decide) <| .fa rfl rfl <| .st1 rfl rfl rfl rfl rfl (of_decide_eq_true rfl) <| .nil <| .inBlock <| .reg <| .add rfl rfl rfl (by omega) <| .mv rfl rfl <| .nil <| hT0 <| ?_
          exact RA.wr [_, _, _, _, _] (ih (pre ++ [a]) ⟨out.ts ++ [a], (out.cs ++ [c])⟩ _ (by simp [hc]) (by simp only [List.length_append, List.length_cons, List.length_nil]; omega) (by simp only [List.length_append, List.length_cons, List.length_nil]; omega) (by simp only [catGo, hF] at hQ; rw [if_neg (by omega), hcg] at hQ; simp only [List.append_assoc, List.cons_append, List.nil_append, List.append_nil, List.length_append, List.length_cons, List.length_nil, Nat.zero_add] at hQ ⊢; exact hQ)) nT0 (hm := by exact .b rfl rfl (.same rfl) <| .b rfl rfl (.same rfl) <| .b rfl rfl (.box2 (.row rfl) (.row rfl)) <| .s rfl rfl (fun h => by cases h) rfl (fun _ _ _ q1 q2 => by rw [q1] at q2; cases q2; exact .refl) <| .x rfl rfl (by simp; rfl) (fun _ => rfl) .nil)
        · refine .nil <| .condF rfl <| .skip <| .seq <| .reg <| .fa rfl rfl <| .ldE rfl rfl rfl rfl <| .fa rfl rfl <| .ldE rfl rfl rfl rfl <| .ap rfl rfl rfl rfl rfl (by simp; omega) (by decide) <| .fa rfl rfl <| .st1 rfl rfl rfl rfl rfl (of_decide_eq_true rfl) <| .nil <| .reg <| .fa rfl rfl <| .ldE rfl rfl rfl rfl <| .fa rfl rfl <| .ldE rfl rfl rfl rfl <| .ap rfl rfl rfl rfl rfl (by simp; omega) (by decide) <| .fa rfl rfl <| .st1 rfl rfl rfl rfl rfl (of_decide_eq_true rfl) <| .nil <| .inBlock <| .reg <| .add rfl rfl rfl (by omega) <| .mv rfl rfl <| .nil <| hT0 <| ?_
          exact RA.wr [_, _, _, _, _] (ih (pre ++ [a]) ⟨out.ts ++ [a], out.cs⟩ _ (by simp [hc]) (by simp only [List.length_append, List.length_cons, List.length_nil]; omega) (Nat.le_trans ho2 (Nat.mul_le_mul_right _ (by simp))) (by simp only [catGo, hF] at hQ; rw [if_pos (by omega)] at hQ; simp only [List.append_assoc, List.cons_append, List.nil_append, List.append_nil, List.length_append, List.length_cons, List.length_nil, Nat.zero_add] at hQ ⊢; exact hQ)) nT0 (hm := by exact .b rfl rfl (.same rfl) <| .b rfl rfl (.same rfl) <| .b rfl rfl (.box2 (.row rfl) (.row rfl)) <| .s rfl rfl (fun h => by cases h) rfl (fun _ _ _ q1 q2 => by rw [q1] at q2; cases q2; exact .refl) <| .x rfl rfl (by simp) (fun _ => rfl) .nil)
  refine RA.freshT 5 0 5 nT0 rfl rfl rfl (RA.freshT 5 1 1 nT0 rfl rfl rfl ?_)
  exact RA.wr [_, _, _, _, _] (L0 m.ts [] ⟨[], []⟩ _ rfl (by simp) (by simp) hQ) nT0 (hm := by exact .b rfl rfl (.same rfl) <| .b rfl rfl (.same rfl) <| .b rfl rfl (.box2 (.row rfl) (.row rfl)) <| .x rfl rfl rfl (fun h => by cases h) <| .x rfl rfl rfl (fun _ => rfl) .nil)
theorem i_giveS (n : Nat) (t : Tr) (ms : List Ms) (lo hi : Int) (HG : ∀ (t : Tr) (ms : List Ms) (lo hi : Int), R n t lo hi → (∀ x, x ∈ ms → bufOk lo hi x = true) → t.w + 2 * ms.length ≤ 10000 → RF Y 52 [.agg t.e, .fro true 3 (ms.map Ms.c)] (Mn.o (give n t ms)) []) (hR : R (n + 1) t lo hi) (hb : (∀ x, x ∈ ms → bufOk lo hi x = true)) (hw : t.w + 2 * ms.length ≤ 10000) : RF Y 52 [.agg t.e, .fro true 3 (ms.map Ms.c)] (Mn.o (give (n + 1) t ms)) [] := by
  refine RF.s2 rfl rfl rfl fun Q hQ => ?_
  have hwf0 := hR.wf
  refine .seq <| .reg <| .box rfl rfl rfl <| .new rfl <| .nil <| .seq <| .seq <| .reg <| .fa rfl rfl <| .ldE rfl rfl rfl rfl <| .bB (fun h1 => ?_) (fun h1 => ?_)
  · have hp4 : t.ps.length ≤ 4 := by
      rcases hwf0 with ht | ht
      · exact ht.2.2.1
      · exact absurd h1 (by simp [ht.2.1])
    have hma := mapAll_len ms t.ps
    rw [show give (n + 1) t ms = leavesOf (mapAll t.ps ms) by rw [give, if_pos h1]] at hQ
    refine .nil <| .condT rfl <| .seq <| .reg <| .fa rfl rfl <| .ldE rfl rfl rfl rfl <| .mv rfl rfl <| .c rfl rfl rfl (i_MapAll t.ps ms (by omega)) .refl rfl rfl rfl (by decide) <| .cz rfl rfl rfl (i_leaves (mapAll t.ps ms) (by omega)) (.c (.fz (.rw (fun h => h))) .n) rfl rfl rfl (by decide) <| .stA rfl rfl rfl rfl rfl rfl <| .nil <| .ret rfl hQ (.agg2 (.ox rfl (by first | exact fun _ => rfl | exact fun h => by cases h)) (.ox rfl (by first | exact fun _ => rfl | exact fun h => by cases h))) LeBs.refl
  · obtain ⟨h0, hl, hp, h2, h3', h5', h6, h7⟩ := hR.resolve_left (fun q => by rw [q.2.1] at h1; cases h1)
    have hs := shrink_len (t.bs ++ ms)
    have hwe : t.w = 2 * t.bs.length + Tr.wL t.ks := by rw [Tr.w_eq]; simp [hl, hp]
    have hall : ∀ x, x ∈ t.bs ++ ms → bufOk lo hi x = true := fun x hx => (List.mem_append.1 hx).elim (h6 x) (hb x)
    rw [List.length_append] at hs
    rw [show give (n + 1) t ms = fin' (give n) (pushGo (give n) (shrink (t.bs ++ ms)).length ⟨t.ks, t.cs⟩ (shrink (t.bs ++ ms))) by rw [give, if_neg (by simp [hl])]] at hQ
    have h7l := h7.len
    refine .nil <| .condF rfl <| .skip <| .seq <| .regD <| .fa rfl rfl <| .ldE rfl rfl rfl rfl <| .cz rfl rfl rfl (Clone_Tree _ (by simp; omega)) .refl rfl rfl rfl (by decide) <| .fa rfl rfl <| .ldE rfl rfl rfl rfl <| .c rfl rfl rfl (Clone_int _ (by simp; omega)) .refl rfl rfl rfl (by decide) <| .build (cs := [_, _]) rfl rfl rfl <| .new rfl <| .stA rfl rfl rfl rfl rfl rfl <| .nil (by kernel_rfl) <| .seq <| .reg <| .fa rfl rfl <| .ldE rfl rfl rfl rfl <| .mv rfl rfl <| .rows (xs := [[_], [_]]) (u := []) rfl rfl rfl rfl rfl rfl <| .c rfl rfl rfl (Concat_Msg [t.bs, ms] (by simp; omega) (by simp)) (.c (.fz (.ey (by simp [MsL]) (fun h => by cases h))) .n) rfl rfl rfl (by decide) <| .c rfl rfl rfl (i_Shrink (t.bs ++ ms) (by simp only [List.length_append]; omega)) (.c (.fz (.ey (by simp) (fun _ => rfl))) .n) rfl rfl rfl (by decide) <| .mv rfl rfl <| .nil <| .seq <| .block <| ?_
    refine RA.loopI fun T0 hT0 nT0 eT0 => ?_
    have L0 : ∀ (f : Nat) (m : Mn) (buf : List Ms) (Q : Qst), Ch (R n) lo hi m.ts m.cs → (∀ x, x ∈ buf → bufOk lo hi x = true) → Tr.wL m.ts + 2 * buf.length ≤ 10000 → buf.length ≤ f → 2 ≤ m.ts.length → Q (Mn.o (fin' (give n) (pushGo (give n) f m buf))) [] →
        RA Y a52 T0 [(4, .elt 0 0 0), (5, .elt 1 0 0), (6, .row 4)] [(0, .box [.emp, .emp]), (1, .box [.row 2, .row 3]), (2, .row false 5 0 (m.ts.map Tr.e)), (3, .row true 1 0 (m.cs.map Ic)), (4, .row true 3 0 (buf.map Ms.c))] 5 Q := by
      intro f
      induction f using Nat.strongRecOn with
      | _ f IH =>
        intro m buf Q hm hb hw hf h2l hQ
        have hml := wfL_len hm.wf.2.2
        have hmc := hm.wf.2.1
        have hs := hm.same
        rw [eT0]
        refine .seq <| .seq <| .reg <| .mv rfl rfl <| .len rfl rfl rfl <| .gtr rfl rfl rfl (fun h2 => ?_) (fun h2 => ?_)
        · obtain ⟨f, rfl⟩ : ∃ f', f = f' + 1 := ⟨f - 1, by omega⟩
          rw [pushGo, if_pos (show buf.length > 6 by omega)] at hQ
          have hlt := most_lt (m := m) (buf := buf) hm.wf.1
          obtain ⟨a, ha⟩ : ∃ a, m.ts[most m buf]? = some a := ⟨_, getD_at hlt⟩
          have hga : m.ts.getD (most m buf) default = a := by simp [List.getD, ha]
          rw [hga] at hQ
          obtain ⟨lo', hi', hR, hmb⟩ := hm.mine hb ha
          have hwf := hR.wf
          have haw := Tr.wL_split ha
          have hmi := mine_rest m.cs (most m buf) buf
          have hmp := most_pos (m := m) (buf := buf) hmc (by omega)
          obtain ⟨hx, hx4⟩ := give_wf n a (mine m.cs (most m buf) buf) hwf
          have hx5 := wfL_len hx.2.2
          have hx6 := hx.2.1
          have hx7 := hx.1
          have hp := (put_ok (give_ok n) hm hb ha).1
          have hpw : Tr.wL (putM m (most m buf) (give n a (mine m.cs (most m buf) buf))).ts = Tr.wL (m.ts.take (most m buf)) + Tr.wL (give n a (mine m.cs (most m buf) buf)).ts + Tr.wL (m.ts.drop (most m buf + 1)) := by simp only [putM]; rw [Tr.wL_app, Tr.wL_app]
          have hpl : m.ts.length ≤ (putM m (most m buf) (give n a (mine m.cs (most m buf) buf))).ts.length := by simp only [putM, List.length_append, List.length_take, List.length_drop]; omega
          refine .nil <| .condT rfl <| .skip <| .block <| .seq <| .reg <| .aE rfl rfl rfl rfl <| .mv rfl rfl <| .c rfl rfl rfl (i_fullest m buf (by omega) (by omega) (by omega) hs) .refl rfl rfl rfl (by decide) <| .new rfl <| .st1 rfl rfl rfl rfl rfl (of_decide_eq_true rfl) <| .nil <| .seq <| .reg <| .fa rfl rfl <| .ldE rfl rfl rfl rfl <| .mv rfl rfl <| .ldE rfl rfl rfl rfl <| .c rfl rfl rfl (i_ofKid m.cs buf (most m buf) (by omega) (by omega) hs) .refl rfl rfl rfl (by decide) <| .mv rfl rfl <| .nil <| .seq <| .reg <| .fa rfl rfl <| .ldE rfl rfl rfl rfl <| .new rfl <| .st1 rfl rfl rfl rfl rfl (of_decide_eq_true rfl) <| .nil <| .seq <| .reg <| .mv rfl rfl <| .mf rfl <| .cM rfl rfl rfl (DeleteFunc_rest buf m.cs (most m buf) (by omega) (by omega) hs) (.c .r (.c .r .n)) rfl rfl (by decide) <| .mv rfl rfl <| .nil <| .regD <| .aE rfl rfl rfl rfl <| .ldE rfl rfl rfl rfl <| .fa rfl rfl <| .ldE rfl rfl rfl rfl <| .ldE rfl rfl rfl rfl <| .iaR rfl rfl rfl rfl (by rw [List.length_map]; exact hlt) <| .aR rfl rfl rfl (by rw [List.getElem?_map, ha]; rfl) rfl <| .mv rfl rfl <| .cz rfl rfl rfl (HG a (mine m.cs (most m buf) buf) lo' hi' hR hmb (by omega)) .refl rfl rfl rfl (by decide) <| .cz rfl rfl rfl (i_put m (give n a (mine m.cs (most m buf) buf)) (most m buf) hlt hmc (by omega) (by omega)) .refl rfl rfl rfl (by decide) <| .stA rfl rfl rfl rfl rfl rfl <| .nil (by kernel_rfl) <| .inBlock <| hT0 <| ?_
          exact RA.ws [_, _, _, _, _] (IH f (by omega) (putM m (most m buf) (give n a (mine m.cs (most m buf) buf))) (rest m.cs (most m buf) buf) _ hp (fun x hx => hb x (rest_mem hx)) (by omega) (by omega) (by omega) hQ) nT0 (by exact .l rfl rfl rfl <| .l rfl rfl rfl <| .r rfl rfl .nil) (by exact .b rfl rfl (.same rfl) <| .b rfl rfl (.box2 (.row rfl) (.row rfl)) <| .r rfl rfl (fun h => by cases h) <| .r rfl rfl (fun _ => rfl) <| .r rfl rfl (fun _ => rfl) .nil)
        · rw [pushGo_stop (by omega)] at hQ
          refine .nil <| .condF rfl <| .exit rfl <| .seq <| .seq <| .reg <| .fa rfl rfl <| .ldE rfl rfl rfl rfl <| .len rfl rfl rfl <| .gtr rfl rfl rfl (fun h3 => ?_) (fun h3 => ?_)
          · rw [show fin' (give n) (m, buf) = pack (down (give n) m buf) by unfold fin'; rw [if_pos (by dsimp only; omega)]] at hQ
            obtain ⟨hd1, hd2, hd3⟩ := down_wf (fun t ms ht => give_wf n t ms ht) hm.wf buf
            have hd4 := wfL_len hd1.2.2
            have hd5 := hd1.2.1
            refine .nil <| .condT rfl <| .seq <| .reg <| .aE rfl rfl rfl rfl <| .mv rfl rfl <| .cz rfl rfl rfl (i_down n lo hi m buf HG hm hb hw) .refl rfl rfl rfl (by decide) <| .cz rfl rfl rfl (i_grouped (down (give n) m buf) (by omega) hd5 (by omega)) .refl rfl rfl rfl (by decide) <| .stA rfl rfl rfl rfl rfl rfl <| .nil <| .ret rfl hQ (.agg2 (.ox rfl (by first | exact fun _ => rfl | exact fun h => by cases h)) (.ox rfl (by first | exact fun _ => rfl | exact fun h => by cases h))) LeBs.refl
          · rw [show fin' (give n) (m, buf) = ⟨[nodeT m.cs m.ts buf], []⟩ by unfold fin'; rw [if_neg (by dsimp only; omega)]] at hQ
            refine .nil <| .condF rfl <| .skip <| .seq <| .reg <| .fa rfl rfl <| .ldE rfl rfl rfl rfl <| .fa rfl rfl <| .ldE rfl rfl rfl rfl <| .mv rfl rfl <| .build (cs := [_, _, _, _, _]) rfl rfl rfl <| .row1 (qs := [_, _, _, _, _]) (u := [_, _, _]) rfl rfl rfl rfl rfl rfl rfl rfl <| .build (cs := [_, _]) rfl rfl rfl <| .stA rfl rfl rfl rfl rfl rfl <| .nil <| .ret rfl hQ (.agg2 (.one (fun h => by cases h) rfl (leTr rfl .emp (.rx (fun _ => rfl) rfl) (.kx rfl) (.rx (fun _ => rfl) rfl))) .empO) LeBs.refl
    exact RA.ws [_, _, _, _, _] (L0 _ ⟨t.ks, t.cs⟩ (shrink (t.bs ++ ms)) _ h7 (shrink_buf hall) (by dsimp only; omega) (Nat.le_refl _) (by dsimp only; omega) hQ) nT0 (by exact .l rfl rfl rfl <| .l rfl rfl rfl <| .r rfl rfl .nil) (by exact .b rfl rfl (.same rfl) <| .b rfl rfl (.box2 (.row rfl) (.row rfl)) <| .r rfl rfl (fun h => by cases h) <| .r rfl rfl (fun _ => rfl) <| .r rfl rfl (fun _ => rfl) .nil)
theorem i_give : ∀ (n : Nat) (t : Tr) (ms : List Ms) (lo hi : Int), R n t lo hi → (∀ x, x ∈ ms → bufOk lo hi x = true) → t.w + 2 * ms.length ≤ 10000 → RF Y 52 [.agg t.e, .fro true 3 (ms.map Ms.c)] (Mn.o (give n t ms)) []
  | 0, _, _, _, _, h, _, _ => h.elim
  | n + 1, t, ms, lo, hi, h, hb, hw => i_giveS n t ms lo hi (i_give n) h hb hw
end Go.Proofs.YtjjocahgbmibeaaGreat
