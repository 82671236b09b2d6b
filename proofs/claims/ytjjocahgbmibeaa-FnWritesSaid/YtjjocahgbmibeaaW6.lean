/- Walks: trees that change (the reference). -/
import Derived.Test.YtjjocahgbmibeaaA0
namespace Go.Proofs.Ytjjocahgbmibeaa
open Go.Eng
set_option maxRecDepth 4000
set_option linter.unusedSimpArgs false
set_option linter.unusedVariables false
theorem s_l4At (m : Mn) (k : Int) (h : m.cs.length ≤ 1000000) : RF Y 188 [.agg (Mn.e m), i64 k] (i64 (kidP k m.cs : Nat)) [] := by
  refine RF.s2 rfl rfl rfl fun Q hQ => ?_
  refine .seq <| .reg <| .box rfl rfl rfl <| .mv rfl rfl <| .nil <| .seq <| .reg <| .mv rfl rfl <| .nil <| .seq <| .block <| ?_
  refine RA.loopI fun T0 hT0 nT0 eT0 => ?_
  have L0 : ∀ (post pre : List Int)  (Q : Qst), m.cs = pre ++ post → Q (i64 (pre.length + kidP k post : Nat)) [] → RA Y a188 T0 [(1, i64 k), (2, .elt 0 0 0), (5, i64 pre.length)] [(0, .box (Mn.e m))] 1 Q := by
    intro post
    induction post with
    | nil =>
      intro pre  Q hc  hQ
      have hl : m.cs.length = pre.length := by simp [hc]
      rw [eT0]
      refine .seq <| .seq <| .reg <| .mv rfl rfl <| .fa rfl rfl <| .ldE rfl rfl rfl rfl <| .len rfl rfl rfl <| .lssF rfl rfl rfl (by omega) <| .mv rfl rfl <| .gs rfl rfl rfl <| .gs rfl rfl rfl <| .gs rfl rfl rfl <| .gs rfl rfl rfl <| .gs rfl rfl rfl <| .gs rfl rfl rfl <| .gs rfl rfl rfl <| .pickF rfl rfl rfl <| .nil <| .condF rfl <| .exit rfl <| .seq <| .reg <| .mv rfl rfl <| .mv rfl rfl <| .nil <| .ret rfl hQ .r LeBs.refl
    | cons a post ih =>
      intro pre  Q hc  hQ
      have hl : m.cs.length = pre.length + post.length + 1 := by simp [hc]; omega
      have ha : m.cs[pre.length]? = some a := by simp [hc]
      rw [eT0]
      refine .seq <| .seq <| .reg <| .mv rfl rfl <| .fa rfl rfl <| .ldE rfl rfl rfl rfl <| .len rfl rfl rfl <| .lssT rfl rfl rfl (by omega) <| .mv rfl rfl <| .g rfl rfl <| .fa rfl rfl <| .g rfl rfl <| .ldE rfl rfl rfl rfl <| .g rfl rfl <| .mv rfl rfl <| .g rfl rfl <| .ia rfl rfl rfl (by assumption) <| .g rfl rfl <| .ldF rfl rfl rfl <| .g rfl rfl <| .mv rfl rfl <| .g rfl rfl <| .leq rfl rfl rfl (fun h2 => ?_) (fun h2 => ?_)
      · refine .pickT rfl rfl rfl <| .nil <| .condT rfl <| .skip <| .block <| .reg <| .mv rfl rfl <| .add rfl rfl rfl (by omega) <| .mv rfl rfl <| .nil <| .inBlock <| hT0 <| ?_
        exact RA.wq [_] (ih (pre ++ [a])  _ (by simp [hc])  (by simp only [kidP, if_pos h2] at hQ; rw [show (pre ++ [a]).length + kidP k post = pre.length + (kidP k post + 1) by simp; omega]; exact hQ)) nT0
      · simp only [kidP, if_neg h2] at hQ
        refine .pickT rfl rfl rfl <| .nil <| .condF rfl <| .exit rfl <| .seq <| .reg <| .mv rfl rfl <| .mv rfl rfl <| .nil <| .ret rfl hQ .r LeBs.refl
  exact RA.wq [_] (L0 m.cs []  _ rfl  (by simpa using hQ)) nT0
theorem s_l4Split (m : Mn) (buf : List Ms) (i : Nat) (h : m.cs.length ≤ 1000000) (hb : buf.length ≤ 1000000) : RF Y 181 [.agg (Mn.e m), .fro true 3 (buf.map Ms.c), i64 i] (.tup [.own true 3 0 ((mine m.cs i buf).map Ms.c), .own true 3 0 ((rest m.cs i buf).map Ms.c)]) [] := by
  refine RF.s3 rfl rfl rfl fun Q hQ => ?_
  refine .seq <| .reg <| .box rfl rfl rfl <| .mv rfl rfl <| .mv rfl rfl <| .nil <| .seq <| .reg <| .row0 rfl rfl rfl <| .row0 rfl rfl rfl <| .mv rfl rfl <| .mv rfl rfl <| .nil <| .seq <| .seq <| .reg <| .mv rfl rfl <| .nil <| .block <| ?_
  refine RA.loopI fun T0 hT0 nT0 eT0 => ?_
  have L0 : ∀ (post pre : List Ms) (x y : List Ms) (Q : Qst), buf = pre ++ post → x.length + y.length ≤ pre.length → Q (.tup [.own true 3 0 ((x ++ mine m.cs i post).map Ms.c), .own true 3 0 ((y ++ rest m.cs i post).map Ms.c)]) [] → RA Y a181 T0 [(1, .fro true 3 (buf.map Ms.c)), (2, i64 i), (3, .elt 0 0 0), (8, .row 1), (9, .row 2), (10, i64 pre.length)] [(0, .box (Mn.e m)), (1, .row true 3 0 (x.map Ms.c)), (2, .row true 3 0 (y.map Ms.c))] 3 Q := by
    intro post
    induction post with
    | nil =>
      intro pre x y Q hc hxy hQ
      have hl : buf.length = pre.length := by simp [hc]
      simp only [mine, rest, List.filter_nil, List.append_nil] at hQ
      rw [eT0]
      refine .seq <| .seq <| .reg <| .mv rfl rfl <| .mv rfl rfl <| .len rfl rfl rfl <| .lssF rfl rfl rfl (by omega) <| .nil <| .condF rfl <| .exit rfl <| .seq <| .reg <| .mv rfl rfl <| .mv rfl rfl <| .mv rfl rfl <| .mv rfl rfl <| .nil <| .ret rfl hQ (.tup2 (.rw (by first | exact fun _ => rfl | exact fun h => by cases h)) (.rw (by first | exact fun _ => rfl | exact fun h => by cases h))) LeBs.refl
    | cons a post ih =>
      intro pre x y Q hc hxy hQ
      have hl : buf.length = pre.length + post.length + 1 := by simp [hc]; omega
      have ha : buf[pre.length]? = some a := by simp [hc]
      rw [eT0]
      refine .seq <| .seq <| .reg <| .mv rfl rfl <| .mv rfl rfl <| .len rfl rfl rfl <| .lssT rfl rfl rfl (by omega) <| .nil <| .condT rfl <| .skip <| .seq <| .block <| .seq <| .regD <| .aE rfl rfl rfl rfl <| .mv rfl rfl <| .mv rfl rfl <| .ia rfl rfl rfl (by assumption) <| .faF rfl rfl <| .ldF rfl rfl rfl <| .c rfl rfl rfl (s_l4At m a.k h) .refl rfl rfl rfl (by decide) <| .mv rfl rfl <| .eql rfl rfl rfl (fun h2 => ?_) (fun h2 => ?_)
      · refine .nil (by kernel_rfl) <| .condT rfl <| .reg <| .mv rfl rfl <| .mv rfl rfl <| .mv rfl rfl <| .ia rfl rfl rfl (by assumption) <| .aF rfl rfl rfl <| .row1P rfl rfl rfl rfl rfl rfl rfl rfl <| .ap rfl rfl rfl rfl rfl (by simp; omega) (by decide) <| .mv rfl rfl <| .nil <| .inBlock <| .reg <| .mv rfl rfl <| .add rfl rfl rfl (by omega) <| .mv rfl rfl <| .nil <| hT0 <| ?_
        exact RA.wq [_, _, _] (ih (pre ++ [a]) (x ++ [a]) y _ (by simp [hc]) (by simp; omega) (by simpa [mine, rest, show kidP a.k m.cs = i by omega] using hQ)) nT0
      · refine .nil (by kernel_rfl) <| .condF rfl <| .reg <| .mv rfl rfl <| .mv rfl rfl <| .mv rfl rfl <| .ia rfl rfl rfl (by assumption) <| .aF rfl rfl rfl <| .row1P rfl rfl rfl rfl rfl rfl rfl rfl <| .ap rfl rfl rfl rfl rfl (by simp; omega) (by decide) <| .mv rfl rfl <| .nil <| .inBlock <| .reg <| .mv rfl rfl <| .add rfl rfl rfl (by omega) <| .mv rfl rfl <| .nil <| hT0 <| ?_
        exact RA.wq [_, _, _] (ih (pre ++ [a]) x (y ++ [a]) _ (by simp [hc]) (by simp; omega) (by simpa [mine, rest, show ¬ kidP a.k m.cs = i by omega] using hQ)) nT0
  exact RA.wq [_, _, _] (L0 buf [] [] [] _ rfl (by simp) hQ) nT0
theorem s_l4Most (m : Mn) (buf : List Ms) (h : m.cs.length ≤ 1000000) (hb : buf.length ≤ 1000000) (ht : m.ts.length ≤ 1000000) : RF Y 180 [.agg (Mn.e m), .fro true 3 (buf.map Ms.c)] (i64 (most m buf : Nat)) [] := by
  refine RF.s2 rfl rfl rfl fun Q hQ => ?_
  refine .seq <| .reg <| .box rfl rfl rfl <| .mv rfl rfl <| .nil <| .seq <| .reg <| .mv rfl rfl <| .mv rfl rfl <| .nil <| .seq <| .seq <| .reg <| .mv rfl rfl <| .nil <| .block <| ?_
  refine RA.loopI fun T0 hT0 nT0 eT0 => ?_
  have L0 : ∀ (post pre : List Tr) (best : Nat) (mo : Int) (Q : Qst), m.ts = pre ++ post → Q (i64 (mostGo m.cs buf post.length pre.length best mo : Nat)) [] → RA Y a180 T0 [(1, .fro true 3 (buf.map Ms.c)), (2, .elt 0 0 0), (5, i64 best), (6, i64 mo), (7, i64 pre.length)] [(0, .box (Mn.e m))] 1 Q := by
    intro post
    induction post with
    | nil =>
      intro pre best mo Q hc  hQ
      have hl : m.ts.length = pre.length := by simp [hc]
      rw [eT0]
      refine .seq <| .seq <| .reg <| .mv rfl rfl <| .fa rfl rfl <| .ldE rfl rfl rfl rfl <| .len rfl rfl rfl <| .lssF rfl rfl rfl (by omega) <| .nil <| .condF rfl <| .exit rfl <| .seq <| .reg <| .mv rfl rfl <| .mv rfl rfl <| .nil <| .ret rfl hQ .r LeBs.refl
    | cons a post ih =>
      intro pre best mo Q hc  hQ
      have hl : m.ts.length = pre.length + post.length + 1 := by simp [hc]; omega
      have ha : m.ts[pre.length]? = some a := by simp [hc]
      rw [eT0]
      refine .seq <| .seq <| .reg <| .mv rfl rfl <| .fa rfl rfl <| .ldE rfl rfl rfl rfl <| .len rfl rfl rfl <| .lssT rfl rfl rfl (by omega) <| .nil <| .condT rfl <| .skip <| .seq <| .block <| .seq <| .reg <| .aE rfl rfl rfl rfl <| .mv rfl rfl <| .mv rfl rfl <| .c rfl rfl rfl (s_l4Split m buf pre.length h hb) .refl rfl rfl rfl (by decide) <| .mv rfl rfl <| .ex rfl rfl rfl <| .ex rfl rfl rfl <| .mv rfl rfl <| .mv rfl rfl <| .nil <| .seq <| .reg <| .mv rfl rfl <| .len rfl rfl rfl <| .mv rfl rfl <| .gtr rfl rfl rfl (fun h2 => ?_) (fun h2 => ?_)
      · refine .nil <| .condT rfl <| .seq <| .reg <| .mv rfl rfl <| .mv rfl rfl <| .nil <| .reg <| .mv rfl rfl <| .len rfl rfl rfl <| .mv rfl rfl <| .nil <| .inBlock <| .reg <| .mv rfl rfl <| .add rfl rfl rfl (by omega) <| .mv rfl rfl <| .nil <| hT0 <| ?_
        exact RA.wq [_] (ih (pre ++ [a]) pre.length (mine m.cs pre.length buf).length _ (by simp [hc])  (by simp only [List.length_cons, mostGo, if_pos h2] at hQ; simpa using hQ)) nT0
      · refine .nil <| .condF rfl <| .skip <| .inBlock <| .reg <| .mv rfl rfl <| .add rfl rfl rfl (by omega) <| .mv rfl rfl <| .nil <| hT0 <| ?_
        exact RA.wq [_] (ih (pre ++ [a]) best mo _ (by simp [hc])  (by simp only [List.length_cons, mostGo, if_neg h2] at hQ; simpa using hQ)) nT0
  exact RA.wq [_] (L0 m.ts [] 0 (-1) _ rfl  hQ) nT0
theorem s_l4Put (m x : Mn) (i : Nat) (h1 : i < m.ts.length) (h2 : m.cs.length + 1 = m.ts.length) (h3 : m.ts.length + x.ts.length ≤ 1000000) (h4 : x.cs.length ≤ 1000000) : RF Y 182 [.agg (Mn.e m), i64 i, .agg (Mn.e x)] (Mn.o (putM m i x)) [] := by
  refine RF.s3 rfl rfl rfl fun Q hQ => ?_
  refine .seq <| .reg <| .box rfl rfl rfl <| .box rfl rfl rfl <| .new rfl <| .nil <| .seq <| .regD <| .row0 rfl rfl rfl <| .fa rfl rfl <| .ldE rfl rfl rfl rfl <| .mv rfl rfl <| .slF rfl rfl (by decide) rfl bnd_nat (by simp; omega) <| .ap rfl rfl rfl rfl rfl (by simp; omega) (by decide) <| .row0 rfl rfl rfl <| .fa rfl rfl <| .ldE rfl rfl rfl rfl <| .mv rfl rfl <| .slF rfl rfl (by decide) rfl bnd_nat (by simp; omega) <| .ap rfl rfl rfl rfl rfl (by simp; omega) (by decide) <| .build (cs := [_, _]) rfl rfl rfl <| .new rfl <| .stA rfl rfl rfl rfl rfl rfl <| .nil (by kernel_rfl) <| .seq <| .regD <| .fa rfl rfl <| .ldE rfl rfl rfl rfl <| .fa rfl rfl <| .ldE rfl rfl rfl rfl <| .ap rfl rfl rfl rfl rfl (by simp; omega) (by decide) <| .fa rfl rfl <| .ldE rfl rfl rfl rfl <| .mv rfl rfl <| .add rfl rfl rfl (by omega) <| .slF rfl rfl (by decide) bnd_nat rfl (by simp; omega) <| .ap rfl rfl rfl rfl rfl (by simp; omega) (by decide) <| .fa rfl rfl <| .st1 rfl rfl rfl rfl rfl (of_decide_eq_true rfl) <| .nil (by kernel_rfl) <| .seq <| .regD <| .fa rfl rfl <| .ldE rfl rfl rfl rfl <| .fa rfl rfl <| .ldE rfl rfl rfl rfl <| .ap rfl rfl rfl rfl rfl (by simp; omega) (by decide) <| .fa rfl rfl <| .ldE rfl rfl rfl rfl <| .mv rfl rfl <| .slF rfl rfl (by decide) bnd_nat rfl (by simp; omega) <| .ap rfl rfl rfl rfl rfl (by simp; omega) (by decide) <| .fa rfl rfl <| .st1 rfl rfl rfl rfl rfl (of_decide_eq_true rfl) <| .nil (by kernel_rfl) <| .seq <| .reg <| .aE rfl rfl rfl rfl <| .stA rfl rfl rfl rfl rfl rfl <| .nil <| .ret rfl hQ (.agg2 (.ox (by simp [putM, List.take_of_length_le]) (by first | exact fun _ => rfl | exact fun h => by cases h)) (.ox (by simp [putM, List.take_of_length_le]) (by first | exact fun _ => rfl | exact fun h => by cases h))) LeBs.refl
theorem s_l4Pack (m : Mn) (h0 : m.ts.length ≠ 1) (h : m.cs.length + 1 = m.ts.length) (hm : m.ts.length ≤ 1000000) : RF Y 177 [.agg (Mn.e m)] (Mn.o (pack m)) [] := by
  refine RF.s1 rfl rfl rfl fun Q hQ => ?_
  refine .seq <| .reg <| .box rfl rfl rfl <| .new rfl <| .nil <| .seq <| .reg <| .build (cs := [_, _]) rfl rfl rfl <| .new rfl <| .stA rfl rfl rfl rfl rfl rfl <| .nil <| .seq <| .reg <| .fa rfl rfl <| .ldE rfl rfl rfl rfl <| .len rfl rfl rfl <| .mv rfl rfl <| .nil <| .seq <| .seq <| .reg <| .mv rfl rfl <| .nil <| .block <| ?_
  refine RA.loopI fun T0 hT0 nT0 eT0 => ?_
  have L0 : ∀ (f i : Nat) (out : Mn) (Q : Qst), f = m.ts.length - i → i ≤ m.ts.length → m.ts.length - i ≠ 1 → out.ts.length ≤ i → out.cs.length ≤ i → Q (Mn.o ⟨out.ts ++ (packAt m i).ts, out.cs ++ (packAt m i).cs⟩) [] →
      RA Y a177 T0 [(1, .elt 0 0 0), (2, .elt 1 0 0), (3, .elt 2 0 0), (4, i64 m.ts.length), (5, i64 i)] [(0, .box (Mn.e m)), (1, .box [.emp, .emp]), (2, .box [.row 3, .row 4]), (3, .row false 5 0 (out.ts.map Tr.e)), (4, .row true 1 0 (out.cs.map Ic))] 5 Q := by
    intro f
    induction f using Nat.strongRecOn with
    | _ f IH =>
      intro i out Q hf hi h1' ho1 ho2 hQ
      rw [eT0]
      refine .seq <| .seq <| .reg <| .mv rfl rfl <| .mv rfl rfl <| .lss rfl rfl rfl (fun h1 => ?_) (fun h1 => ?_)
      · refine .nil <| .condT rfl <| .skip <| .block <| .seq <| .reg <| .mv rfl rfl <| .nil <| .seq <| .seq <| .reg <| .mv rfl rfl <| .mv rfl rfl <| .sub rfl rfl rfl (by omega) <| .eql rfl rfl rfl (fun h2 => ?_) (fun h2 => ?_)
        · refine .nil <| .condT rfl <| .reg <| .mv rfl rfl <| .nil <| .seq <| .seq <| .reg <| .mv rfl rfl <| .gtr rfl rfl rfl (fun h3 => ?_) (fun h3 => ?_)
          · obtain ⟨c, hcc⟩ : ∃ c, m.cs[i - 1]? = some c := ⟨_, getD_at (by omega)⟩
            have hcc' : m.cs[((i : Int) - 1).toNat]? = some c := by rw [show ((i : Int) - 1).toNat = i - 1 by omega]; exact hcc
            refine .nil <| .condT rfl <| .regD <| .fa rfl rfl <| .ldE rfl rfl rfl rfl <| .fa rfl rfl <| .ldE rfl rfl rfl rfl <| .mv rfl rfl <| .sub rfl rfl rfl (by omega) <| .iaI rfl rfl rfl (by omega) (by assumption) <| .ldF rfl rfl rfl <| .row1P rfl rfl rfl rfl rfl rfl rfl rfl <| .ap rfl rfl rfl rfl rfl (by simp; omega) (by decide) <| .fa rfl rfl <| .st1 rfl rfl rfl rfl rfl (of_decide_eq_true rfl) <| .nil (by kernel_rfl) <| .seq <| .regD <| .fa rfl rfl <| .ldE rfl rfl rfl rfl <| .row0 rfl rfl rfl <| .fa rfl rfl <| .ldE rfl rfl rfl rfl <| .mv rfl rfl <| .mv rfl rfl <| .mv rfl rfl <| .add rfl rfl rfl (by omega) <| .slF rfl rfl (by decide) bnd_nat bnd_nat (by simp; omega) <| .ap rfl rfl rfl rfl rfl (by simp; omega) (by decide) <| .row0 rfl rfl rfl <| .fa rfl rfl <| .ldE rfl rfl rfl rfl <| .mv rfl rfl <| .mv rfl rfl <| .mv rfl rfl <| .add rfl rfl rfl (by omega) <| .sub rfl rfl rfl (by omega) <| .slF rfl rfl (by decide) bnd_nat (bnd_int (by omega)) (by simp; omega) <| .ap rfl rfl rfl rfl rfl (by simp; omega) (by decide) <| .build (cs := [_, _, _, _, _]) rfl rfl rfl <| .row1 (qs := [_, _, _, _, _]) (u := [_, _]) rfl rfl rfl rfl rfl rfl rfl rfl <| .ap rfl rfl rfl rfl rfl (by simp; omega) (by decide) <| .fa rfl rfl <| .st1 rfl rfl rfl rfl rfl (of_decide_eq_true rfl) <| .nil (by kernel_rfl) <| .reg <| .mv rfl rfl <| .mv rfl rfl <| .add rfl rfl rfl (by omega) <| .mv rfl rfl <| .nil <| .inBlock <| hT0 <| ?_
            rw [packAt_step (k := 3) (by omega) (by unfold many; rw [if_pos (by omega)])] at hQ
            exact RA.ws [_, _, _, _, _] (IH _ (by omega) (i + 3) ⟨out.ts ++ [nodeT ((m.cs.drop i).take 2) ((m.ts.drop i).take 3) []], (out.cs ++ [c])⟩ _ rfl (by omega) (by omega) (by simp; omega) (by simp; omega) (by simpa [cutAt, show i ≠ 0 by omega, hcc] using hQ)) nT0 (by exact .l rfl rfl rfl <| .l rfl rfl rfl <| .l rfl rfl rfl <| .k rfl rfl <| .i rfl (by omega) .nil) (by exact .b rfl rfl (.same rfl) <| .b rfl rfl (.same rfl) <| .b rfl rfl (.box2 (.row rfl) (.row rfl)) <| .s rfl rfl (fun h => by cases h) rfl (leTr rfl .emp (.rx (fun _ => rfl) (by simp only [nodeT, Tr.cs]; rw [List.drop_take]; congr 1; omega)) (.kx (by simp only [nodeT, Tr.ks]; rw [List.drop_take]; congr 1; omega)) .emp) <| .r rfl rfl (fun _ => rfl) .nil)
          · refine .nil <| .condF rfl <| .skip <| .seq <| .regD <| .fa rfl rfl <| .ldE rfl rfl rfl rfl <| .row0 rfl rfl rfl <| .fa rfl rfl <| .ldE rfl rfl rfl rfl <| .mv rfl rfl <| .mv rfl rfl <| .mv rfl rfl <| .add rfl rfl rfl (by omega) <| .slF rfl rfl (by decide) bnd_nat bnd_nat (by simp; omega) <| .ap rfl rfl rfl rfl rfl (by simp; omega) (by decide) <| .row0 rfl rfl rfl <| .fa rfl rfl <| .ldE rfl rfl rfl rfl <| .mv rfl rfl <| .mv rfl rfl <| .mv rfl rfl <| .add rfl rfl rfl (by omega) <| .sub rfl rfl rfl (by omega) <| .slF rfl rfl (by decide) bnd_nat (bnd_int (by omega)) (by simp; omega) <| .ap rfl rfl rfl rfl rfl (by simp; omega) (by decide) <| .build (cs := [_, _, _, _, _]) rfl rfl rfl <| .row1 (qs := [_, _, _, _, _]) (u := [_, _]) rfl rfl rfl rfl rfl rfl rfl rfl <| .ap rfl rfl rfl rfl rfl (by simp; omega) (by decide) <| .fa rfl rfl <| .st1 rfl rfl rfl rfl rfl (of_decide_eq_true rfl) <| .nil (by kernel_rfl) <| .reg <| .mv rfl rfl <| .mv rfl rfl <| .add rfl rfl rfl (by omega) <| .mv rfl rfl <| .nil <| .inBlock <| hT0 <| ?_
            rw [packAt_step (k := 3) (by omega) (by unfold many; rw [if_pos (by omega)])] at hQ
            exact RA.ws [_, _, _, _, _] (IH _ (by omega) (i + 3) ⟨out.ts ++ [nodeT ((m.cs.drop i).take 2) ((m.ts.drop i).take 3) []], out.cs⟩ _ rfl (by omega) (by omega) (by simp; omega) (by simp; omega) (by simpa [cutAt, show i = 0 by omega] using hQ)) nT0 (by exact .l rfl rfl rfl <| .l rfl rfl rfl <| .l rfl rfl rfl <| .k rfl rfl <| .i rfl (by omega) .nil) (by exact .b rfl rfl (.same rfl) <| .b rfl rfl (.same rfl) <| .b rfl rfl (.box2 (.row rfl) (.row rfl)) <| .s rfl rfl (fun h => by cases h) rfl (leTr rfl .emp (.rx (fun _ => rfl) (by simp only [nodeT, Tr.cs]; rw [List.drop_take]; congr 1; omega)) (.kx (by simp only [nodeT, Tr.ks]; rw [List.drop_take]; congr 1; omega)) .emp) <| .x rfl rfl rfl (fun _ => rfl) .nil)
        · refine .nil <| .condF rfl <| .skip <| .seq <| .seq <| .reg <| .mv rfl rfl <| .gtr rfl rfl rfl (fun h4 => ?_) (fun h4 => ?_)
          · obtain ⟨c, hcc⟩ : ∃ c, m.cs[i - 1]? = some c := ⟨_, getD_at (by omega)⟩
            have hcc' : m.cs[((i : Int) - 1).toNat]? = some c := by rw [show ((i : Int) - 1).toNat = i - 1 by omega]; exact hcc
            refine .nil <| .condT rfl <| .regD <| .fa rfl rfl <| .ldE rfl rfl rfl rfl <| .fa rfl rfl <| .ldE rfl rfl rfl rfl <| .mv rfl rfl <| .sub rfl rfl rfl (by omega) <| .iaI rfl rfl rfl (by omega) (by assumption) <| .ldF rfl rfl rfl <| .row1P rfl rfl rfl rfl rfl rfl rfl rfl <| .ap rfl rfl rfl rfl rfl (by simp; omega) (by decide) <| .fa rfl rfl <| .st1 rfl rfl rfl rfl rfl (of_decide_eq_true rfl) <| .nil (by kernel_rfl) <| .seq <| .regD <| .fa rfl rfl <| .ldE rfl rfl rfl rfl <| .row0 rfl rfl rfl <| .fa rfl rfl <| .ldE rfl rfl rfl rfl <| .mv rfl rfl <| .mv rfl rfl <| .mv rfl rfl <| .add rfl rfl rfl (by omega) <| .slF rfl rfl (by decide) bnd_nat bnd_nat (by simp; omega) <| .ap rfl rfl rfl rfl rfl (by simp; omega) (by decide) <| .row0 rfl rfl rfl <| .fa rfl rfl <| .ldE rfl rfl rfl rfl <| .mv rfl rfl <| .mv rfl rfl <| .mv rfl rfl <| .add rfl rfl rfl (by omega) <| .sub rfl rfl rfl (by omega) <| .slF rfl rfl (by decide) bnd_nat (bnd_int (by omega)) (by simp; omega) <| .ap rfl rfl rfl rfl rfl (by simp; omega) (by decide) <| .build (cs := [_, _, _, _, _]) rfl rfl rfl <| .row1 (qs := [_, _, _, _, _]) (u := [_, _]) rfl rfl rfl rfl rfl rfl rfl rfl <| .ap rfl rfl rfl rfl rfl (by simp; omega) (by decide) <| .fa rfl rfl <| .st1 rfl rfl rfl rfl rfl (of_decide_eq_true rfl) <| .nil (by kernel_rfl) <| .reg <| .mv rfl rfl <| .mv rfl rfl <| .add rfl rfl rfl (by omega) <| .mv rfl rfl <| .nil <| .inBlock <| hT0 <| ?_
            rw [packAt_step (k := 2) (by omega) (by unfold many; rw [if_neg (by omega)])] at hQ
            exact RA.ws [_, _, _, _, _] (IH _ (by omega) (i + 2) ⟨out.ts ++ [nodeT ((m.cs.drop i).take 1) ((m.ts.drop i).take 2) []], (out.cs ++ [c])⟩ _ rfl (by omega) (by omega) (by simp; omega) (by simp; omega) (by simpa [cutAt, show i ≠ 0 by omega, hcc] using hQ)) nT0 (by exact .l rfl rfl rfl <| .l rfl rfl rfl <| .l rfl rfl rfl <| .k rfl rfl <| .i rfl (by omega) .nil) (by exact .b rfl rfl (.same rfl) <| .b rfl rfl (.same rfl) <| .b rfl rfl (.box2 (.row rfl) (.row rfl)) <| .s rfl rfl (fun h => by cases h) rfl (leTr rfl .emp (.rx (fun _ => rfl) (by simp only [nodeT, Tr.cs]; rw [List.drop_take]; congr 1; omega)) (.kx (by simp only [nodeT, Tr.ks]; rw [List.drop_take]; congr 1; omega)) .emp) <| .r rfl rfl (fun _ => rfl) .nil)
          · refine .nil <| .condF rfl <| .skip <| .seq <| .regD <| .fa rfl rfl <| .ldE rfl rfl rfl rfl <| .row0 rfl rfl rfl <| .fa rfl rfl <| .ldE rfl rfl rfl rfl <| .mv rfl rfl <| .mv rfl rfl <| .mv rfl rfl <| .add rfl rfl rfl (by omega) <| .slF rfl rfl (by decide) bnd_nat bnd_nat (by simp; omega) <| .ap rfl rfl rfl rfl rfl (by simp; omega) (by decide) <| .row0 rfl rfl rfl <| .fa rfl rfl <| .ldE rfl rfl rfl rfl <| .mv rfl rfl <| .mv rfl rfl <| .mv rfl rfl <| .add rfl rfl rfl (by omega) <| .sub rfl rfl rfl (by omega) <| .slF rfl rfl (by decide) bnd_nat (bnd_int (by omega)) (by simp; omega) <| .ap rfl rfl rfl rfl rfl (by simp; omega) (by decide) <| .build (cs := [_, _, _, _, _]) rfl rfl rfl <| .row1 (qs := [_, _, _, _, _]) (u := [_, _]) rfl rfl rfl rfl rfl rfl rfl rfl <| .ap rfl rfl rfl rfl rfl (by simp; omega) (by decide) <| .fa rfl rfl <| .st1 rfl rfl rfl rfl rfl (of_decide_eq_true rfl) <| .nil (by kernel_rfl) <| .reg <| .mv rfl rfl <| .mv rfl rfl <| .add rfl rfl rfl (by omega) <| .mv rfl rfl <| .nil <| .inBlock <| hT0 <| ?_
            rw [packAt_step (k := 2) (by omega) (by unfold many; rw [if_neg (by omega)])] at hQ
            exact RA.ws [_, _, _, _, _] (IH _ (by omega) (i + 2) ⟨out.ts ++ [nodeT ((m.cs.drop i).take 1) ((m.ts.drop i).take 2) []], out.cs⟩ _ rfl (by omega) (by omega) (by simp; omega) (by simp; omega) (by simpa [cutAt, show i = 0 by omega] using hQ)) nT0 (by exact .l rfl rfl rfl <| .l rfl rfl rfl <| .l rfl rfl rfl <| .k rfl rfl <| .i rfl (by omega) .nil) (by exact .b rfl rfl (.same rfl) <| .b rfl rfl (.same rfl) <| .b rfl rfl (.box2 (.row rfl) (.row rfl)) <| .s rfl rfl (fun h => by cases h) rfl (leTr rfl .emp (.rx (fun _ => rfl) (by simp only [nodeT, Tr.cs]; rw [List.drop_take]; congr 1; omega)) (.kx (by simp only [nodeT, Tr.ks]; rw [List.drop_take]; congr 1; omega)) .emp) <| .x rfl rfl rfl (fun _ => rfl) .nil)
      · rw [packAt_end (by omega)] at hQ
        refine .nil <| .condF rfl <| .exit rfl <| .seq <| .reg <| .aE rfl rfl rfl rfl <| .stA rfl rfl rfl rfl rfl rfl <| .nil <| .ret rfl hQ (.agg2 (.ox (by simp) (by first | exact fun _ => rfl | exact fun h => by cases h)) (.ox (by simp) (by first | exact fun _ => rfl | exact fun h => by cases h))) LeBs.refl
  refine RA.freshT 3 0 5 nT0 rfl rfl rfl (RA.freshT 3 1 1 nT0 rfl rfl rfl ?_)
  exact RA.wr [_, _, _, _, _] (L0 _ 0 ⟨[], []⟩ _ rfl (Nat.zero_le _) (by omega) (Nat.le_refl _) (Nat.le_refl _) hQ) nT0 (hm := by exact .b rfl rfl (.same rfl) <| .b rfl rfl (.same rfl) <| .b rfl rfl (.box2 (.row rfl) (.row rfl)) <| .x rfl rfl rfl (fun h => by cases h) <| .x rfl rfl rfl (fun _ => rfl) .nil)
theorem s_l4Leaf (ps : List Pr) (h : ps.length ≤ 1000000) : RF Y 178 [.fro true 2 (ps.map Pr.c)] (Mn.o (leavesOf ps)) [] := by
  refine RF.s1 rfl rfl rfl fun Q hQ => ?_
  refine .seq <| .reg <| .new rfl <| .nil <| .seq <| .reg <| .mv rfl rfl <| .len rfl rfl rfl <| .mv rfl rfl <| .nil <| .seq <| .seq <| .reg <| .mv rfl rfl <| .leq rfl rfl rfl (fun h1 => ?_) (fun h1 => ?_)
  · rw [show leavesOf ps = ⟨[leafT ps], []⟩ by unfold leavesOf; rw [if_pos (by omega)]] at hQ
    refine .nil <| .condT rfl <| .seq <| .reg <| .mv rfl rfl <| .build (cs := [_, _, _, _, _]) rfl rfl rfl <| .row1P rfl rfl rfl rfl rfl rfl rfl rfl <| .build (cs := [_, _]) rfl rfl rfl <| .stA rfl rfl rfl rfl rfl rfl <| .nil <| .ret rfl hQ (.agg2 (.one (fun h => by cases h) rfl (leTr rfl .refl .emp .emp .emp)) .empO) LeBs.refl
  · refine .nil <| .condF rfl <| .skip <| .seq <| .reg <| .build (cs := [_, _]) rfl rfl rfl <| .new rfl <| .stA rfl rfl rfl rfl rfl rfl <| .nil <| .seq <| .seq <| .reg <| .mv rfl rfl <| .nil <| .block <| ?_
    refine RA.loopI fun T0 hT0 nT0 eT0 => ?_
    have L0 : ∀ (f i : Nat) (out : Mn) (Q : Qst), f = ps.length - i → i ≤ ps.length → ps.length - i ≠ 1 → out.ts.length ≤ i → out.cs.length ≤ i → Q (Mn.o ⟨out.ts ++ (leafAt ps i).ts, out.cs ++ (leafAt ps i).cs⟩) [] →
        RA Y a178 T0 [(0, .fro true 2 (ps.map Pr.c)), (2, .elt 0 0 0), (3, i64 ps.length), (4, .elt 1 0 0), (5, i64 i)] [(0, .box [.emp, .emp]), (1, .box [.row 2, .row 3]), (2, .row false 5 0 (out.ts.map Tr.e)), (3, .row true 1 0 (out.cs.map Ic))] 4 Q := by
      intro f
      induction f using Nat.strongRecOn with
      | _ f IH =>
        intro i out Q hf hi h1' ho1 ho2 hQ
        rw [eT0]
        refine .seq <| .seq <| .reg <| .mv rfl rfl <| .mv rfl rfl <| .lss rfl rfl rfl (fun h2 => ?_) (fun h2 => ?_)
        · have hi2 : i < ps.length := by omega
          obtain ⟨a, ha⟩ : ∃ a, ps[i]? = some a := ⟨_, getD_at hi2⟩
          refine .nil <| .condT rfl <| .skip <| .block <| .seq <| .reg <| .mv rfl rfl <| .nil <| .seq <| .seq <| .reg <| .mv rfl rfl <| .mv rfl rfl <| .sub rfl rfl rfl (by omega) <| .eql rfl rfl rfl (fun h3 => ?_) (fun h3 => ?_)
          · refine .nil <| .condT rfl <| .reg <| .mv rfl rfl <| .nil <| .seq <| .seq <| .reg <| .mv rfl rfl <| .gtr rfl rfl rfl (fun h4 => ?_) (fun h4 => ?_)
            · refine .nil <| .condT rfl <| .regD <| .fa rfl rfl <| .ldE rfl rfl rfl rfl <| .mv rfl rfl <| .mv rfl rfl <| .ia rfl rfl rfl (by assumption) <| .faF rfl rfl <| .ldF rfl rfl rfl <| .row1P rfl rfl rfl rfl rfl rfl rfl rfl <| .ap rfl rfl rfl rfl rfl (by simp; omega) (by decide) <| .fa rfl rfl <| .st1 rfl rfl rfl rfl rfl (of_decide_eq_true rfl) <| .nil (by kernel_rfl) <| .seq <| .regD <| .fa rfl rfl <| .ldE rfl rfl rfl rfl <| .row0 rfl rfl rfl <| .mv rfl rfl <| .mv rfl rfl <| .mv rfl rfl <| .mv rfl rfl <| .add rfl rfl rfl (by omega) <| .slF rfl rfl (by decide) bnd_nat bnd_nat (by simp; omega) <| .ap rfl rfl rfl rfl rfl (by simp; omega) (by decide) <| .build (cs := [_, _, _, _, _]) rfl rfl rfl <| .row1 (qs := [_, _, _, _, _]) (u := [_]) rfl rfl rfl rfl rfl rfl rfl rfl <| .ap rfl rfl rfl rfl rfl (by simp; omega) (by decide) <| .fa rfl rfl <| .st1 rfl rfl rfl rfl rfl (of_decide_eq_true rfl) <| .nil (by kernel_rfl) <| .reg <| .mv rfl rfl <| .mv rfl rfl <| .add rfl rfl rfl (by omega) <| .mv rfl rfl <| .nil <| .inBlock <| hT0 <| ?_
              rw [leafAt_step (k := 3) ha (by unfold many; rw [if_pos (by omega)])] at hQ
              exact RA.ws [_, _, _, _] (IH _ (by omega) (i + 3) ⟨out.ts ++ [leafT ((ps.drop i).take 3)], (out.cs ++ [a.k])⟩ _ rfl (by omega) (by omega) (by simp; omega) (by simp; omega) (by simpa [show i ≠ 0 by omega] using hQ)) nT0 (by exact .k rfl rfl <| .l rfl rfl rfl <| .k rfl rfl <| .l rfl rfl rfl <| .i rfl (by omega) .nil) (by exact .b rfl rfl (.same rfl) <| .b rfl rfl (.box2 (.row rfl) (.row rfl)) <| .s rfl rfl (fun h => by cases h) rfl (leTr rfl (.rx (fun _ => rfl) (by simp only [leafT, Tr.ps]; rw [List.drop_take]; congr 1; omega)) .emp .emp .emp) <| .r rfl rfl (fun _ => rfl) .nil)
            · refine .nil <| .condF rfl <| .skip <| .seq <| .regD <| .fa rfl rfl <| .ldE rfl rfl rfl rfl <| .row0 rfl rfl rfl <| .mv rfl rfl <| .mv rfl rfl <| .mv rfl rfl <| .mv rfl rfl <| .add rfl rfl rfl (by omega) <| .slF rfl rfl (by decide) bnd_nat bnd_nat (by simp; omega) <| .ap rfl rfl rfl rfl rfl (by simp; omega) (by decide) <| .build (cs := [_, _, _, _, _]) rfl rfl rfl <| .row1 (qs := [_, _, _, _, _]) (u := [_]) rfl rfl rfl rfl rfl rfl rfl rfl <| .ap rfl rfl rfl rfl rfl (by simp; omega) (by decide) <| .fa rfl rfl <| .st1 rfl rfl rfl rfl rfl (of_decide_eq_true rfl) <| .nil (by kernel_rfl) <| .reg <| .mv rfl rfl <| .mv rfl rfl <| .add rfl rfl rfl (by omega) <| .mv rfl rfl <| .nil <| .inBlock <| hT0 <| ?_
              rw [leafAt_step (k := 3) ha (by unfold many; rw [if_pos (by omega)])] at hQ
              exact RA.ws [_, _, _, _] (IH _ (by omega) (i + 3) ⟨out.ts ++ [leafT ((ps.drop i).take 3)], out.cs⟩ _ rfl (by omega) (by omega) (by simp; omega) (by simp; omega) (by simpa [show i = 0 by omega] using hQ)) nT0 (by exact .k rfl rfl <| .l rfl rfl rfl <| .k rfl rfl <| .l rfl rfl rfl <| .i rfl (by omega) .nil) (by exact .b rfl rfl (.same rfl) <| .b rfl rfl (.box2 (.row rfl) (.row rfl)) <| .s rfl rfl (fun h => by cases h) rfl (leTr rfl (.rx (fun _ => rfl) (by simp only [leafT, Tr.ps]; rw [List.drop_take]; congr 1; omega)) .emp .emp .emp) <| .x rfl rfl rfl (fun _ => rfl) .nil)
          · refine .nil <| .condF rfl <| .skip <| .seq <| .seq <| .reg <| .mv rfl rfl <| .gtr rfl rfl rfl (fun h5 => ?_) (fun h5 => ?_)
            · refine .nil <| .condT rfl <| .regD <| .fa rfl rfl <| .ldE rfl rfl rfl rfl <| .mv rfl rfl <| .mv rfl rfl <| .ia rfl rfl rfl (by assumption) <| .faF rfl rfl <| .ldF rfl rfl rfl <| .row1P rfl rfl rfl rfl rfl rfl rfl rfl <| .ap rfl rfl rfl rfl rfl (by simp; omega) (by decide) <| .fa rfl rfl <| .st1 rfl rfl rfl rfl rfl (of_decide_eq_true rfl) <| .nil (by kernel_rfl) <| .seq <| .regD <| .fa rfl rfl <| .ldE rfl rfl rfl rfl <| .row0 rfl rfl rfl <| .mv rfl rfl <| .mv rfl rfl <| .mv rfl rfl <| .mv rfl rfl <| .add rfl rfl rfl (by omega) <| .slF rfl rfl (by decide) bnd_nat bnd_nat (by simp; omega) <| .ap rfl rfl rfl rfl rfl (by simp; omega) (by decide) <| .build (cs := [_, _, _, _, _]) rfl rfl rfl <| .row1 (qs := [_, _, _, _, _]) (u := [_]) rfl rfl rfl rfl rfl rfl rfl rfl <| .ap rfl rfl rfl rfl rfl (by simp; omega) (by decide) <| .fa rfl rfl <| .st1 rfl rfl rfl rfl rfl (of_decide_eq_true rfl) <| .nil (by kernel_rfl) <| .reg <| .mv rfl rfl <| .mv rfl rfl <| .add rfl rfl rfl (by omega) <| .mv rfl rfl <| .nil <| .inBlock <| hT0 <| ?_
              rw [leafAt_step (k := 2) ha (by unfold many; rw [if_neg (by omega)])] at hQ
              exact RA.ws [_, _, _, _] (IH _ (by omega) (i + 2) ⟨out.ts ++ [leafT ((ps.drop i).take 2)], (out.cs ++ [a.k])⟩ _ rfl (by omega) (by omega) (by simp; omega) (by simp; omega) (by simpa [show i ≠ 0 by omega] using hQ)) nT0 (by exact .k rfl rfl <| .l rfl rfl rfl <| .k rfl rfl <| .l rfl rfl rfl <| .i rfl (by omega) .nil) (by exact .b rfl rfl (.same rfl) <| .b rfl rfl (.box2 (.row rfl) (.row rfl)) <| .s rfl rfl (fun h => by cases h) rfl (leTr rfl (.rx (fun _ => rfl) (by simp only [leafT, Tr.ps]; rw [List.drop_take]; congr 1; omega)) .emp .emp .emp) <| .r rfl rfl (fun _ => rfl) .nil)
            · refine .nil <| .condF rfl <| .skip <| .seq <| .regD <| .fa rfl rfl <| .ldE rfl rfl rfl rfl <| .row0 rfl rfl rfl <| .mv rfl rfl <| .mv rfl rfl <| .mv rfl rfl <| .mv rfl rfl <| .add rfl rfl rfl (by omega) <| .slF rfl rfl (by decide) bnd_nat bnd_nat (by simp; omega) <| .ap rfl rfl rfl rfl rfl (by simp; omega) (by decide) <| .build (cs := [_, _, _, _, _]) rfl rfl rfl <| .row1 (qs := [_, _, _, _, _]) (u := [_]) rfl rfl rfl rfl rfl rfl rfl rfl <| .ap rfl rfl rfl rfl rfl (by simp; omega) (by decide) <| .fa rfl rfl <| .st1 rfl rfl rfl rfl rfl (of_decide_eq_true rfl) <| .nil (by kernel_rfl) <| .reg <| .mv rfl rfl <| .mv rfl rfl <| .add rfl rfl rfl (by omega) <| .mv rfl rfl <| .nil <| .inBlock <| hT0 <| ?_
              rw [leafAt_step (k := 2) ha (by unfold many; rw [if_neg (by omega)])] at hQ
              exact RA.ws [_, _, _, _] (IH _ (by omega) (i + 2) ⟨out.ts ++ [leafT ((ps.drop i).take 2)], out.cs⟩ _ rfl (by omega) (by omega) (by simp; omega) (by simp; omega) (by simpa [show i = 0 by omega] using hQ)) nT0 (by exact .k rfl rfl <| .l rfl rfl rfl <| .k rfl rfl <| .l rfl rfl rfl <| .i rfl (by omega) .nil) (by exact .b rfl rfl (.same rfl) <| .b rfl rfl (.box2 (.row rfl) (.row rfl)) <| .s rfl rfl (fun h => by cases h) rfl (leTr rfl (.rx (fun _ => rfl) (by simp only [leafT, Tr.ps]; rw [List.drop_take]; congr 1; omega)) .emp .emp .emp) <| .x rfl rfl rfl (fun _ => rfl) .nil)
        · rw [leafAt_end (by omega)] at hQ
          refine .nil <| .condF rfl <| .exit rfl <| .seq <| .reg <| .aE rfl rfl rfl rfl <| .stA rfl rfl rfl rfl rfl rfl <| .nil <| .ret rfl hQ (.agg2 (.ox (by simp) (by first | exact fun _ => rfl | exact fun h => by cases h)) (.ox (by simp) (by first | exact fun _ => rfl | exact fun h => by cases h))) LeBs.refl
    refine RA.freshT 4 0 5 nT0 rfl rfl rfl (RA.freshT 4 1 1 nT0 rfl rfl rfl ?_)
    rw [show leavesOf ps = leafAt ps 0 by unfold leavesOf; rw [if_neg (by omega)]; rfl] at hQ
    exact RA.wr [_, _, _, _] (L0 _ 0 ⟨[], []⟩ _ rfl (Nat.zero_le _) (by omega) (Nat.le_refl _) (Nat.le_refl _) hQ) nT0 (hm := by exact .b rfl rfl (.same rfl) <| .b rfl rfl (.box2 (.row rfl) (.row rfl)) <| .x rfl rfl rfl (fun h => by cases h) <| .x rfl rfl rfl (fun _ => rfl) .nil)
theorem s_l4Down (n : Nat) (m : Mn) (buf : List Ms) (HG : ∀ (t : Tr) (ms : List Ms), Wf n t → t.w + 2 * ms.length ≤ 10000 → RF Y 170 [.agg t.e, .fro true 3 (ms.map Ms.c)] (Mn.o (give n t ms)) []) (hm : WfM n m) (hw : Tr.wL m.ts + 2 * buf.length ≤ 10000) : RF Y 183 [.agg (Mn.e m), .fro true 3 (buf.map Ms.c)] (Mn.o (down (give n) m buf)) [] := by
  refine RF.s2 rfl rfl rfl fun Q hQ => ?_
  have hml := wfL_len hm.2.2
  have hmc := hm.2.1
  refine .seq <| .reg <| .box rfl rfl rfl <| .new rfl <| .nil <| .seq <| .reg <| .build (cs := [_, _]) rfl rfl rfl <| .new rfl <| .stA rfl rfl rfl rfl rfl rfl <| .nil <| .seq <| .seq <| .reg <| .mv rfl rfl <| .nil <| .block <| ?_
  refine RA.loopI fun T0 hT0 nT0 eT0 => ?_
  have L0 : ∀ (post pre : List Tr) (out : Mn) (Q : Qst), m.ts = pre ++ post → out.ts.length ≤ pre.length * 10000 → out.cs.length ≤ pre.length * 10000 → Q (Mn.o ⟨out.ts ++ (catGo (downF (give n) m.cs buf) m.cs post pre.length).ts, out.cs ++ (catGo (downF (give n) m.cs buf) m.cs post pre.length).cs⟩) [] → RA Y a183 T0 [(1, .fro true 3 (buf.map Ms.c)), (2, .elt 0 0 0), (4, .elt 1 0 0), (5, .elt 2 0 0), (6, i64 pre.length)] [(0, .box (Mn.e m)), (1, .box [.emp, .emp]), (2, .box [.row 3, .row 4]), (3, .row false 5 0 (out.ts.map Tr.e)), (4, .row true 1 0 (out.cs.map Ic))] 5 Q := by
    intro post
    induction post with
    | nil =>
      intro pre out Q hc ho1 ho2 hQ
      have hl : m.ts.length = pre.length := by simp [hc]
      simp only [catGo, List.append_nil] at hQ
      rw [eT0]
      refine .seq <| .seq <| .reg <| .mv rfl rfl <| .fa rfl rfl <| .ldE rfl rfl rfl rfl <| .len rfl rfl rfl <| .lssF rfl rfl rfl (by omega) <| .nil <| .condF rfl <| .exit rfl <| .seq <| .reg <| .aE rfl rfl rfl rfl <| .stA rfl rfl rfl rfl rfl rfl <| .nil <| .ret rfl hQ (.agg2 (.ox (by simp) (by first | exact fun _ => rfl | exact fun h => by cases h)) (.ox (by simp) (by first | exact fun _ => rfl | exact fun h => by cases h))) LeBs.refl
    | cons a post ih =>
      intro pre out Q hc ho1 ho2 hQ
      have hl : m.ts.length = pre.length + post.length + 1 := by simp [hc]; omega
      have ha : m.ts[pre.length]? = some a := by simp [hc]
      have hwf := hm.2.2 a (by simp [hc])
      have haw : a.w ≤ Tr.wL m.ts := Tr.wL_mem (by simp [hc])
      have hmi := mine_rest m.cs pre.length buf
      obtain ⟨⟨hx1, hx2, hx3⟩, hx4⟩ := give_wf n a (mine m.cs pre.length buf) hwf
      have hx5 := wfL_len hx3
      rw [eT0]
      refine .seq <| .seq <| .reg <| .mv rfl rfl <| .fa rfl rfl <| .ldE rfl rfl rfl rfl <| .len rfl rfl rfl <| .lssT rfl rfl rfl (by omega) <| .nil <| .condT rfl <| .skip <| .seq <| .block <| .seq <| .reg <| .aE rfl rfl rfl rfl <| .mv rfl rfl <| .mv rfl rfl <| .c rfl rfl rfl (s_l4Split m buf pre.length (by omega) (by omega)) .refl rfl rfl rfl (by decide) <| .mv rfl rfl <| .ex rfl rfl rfl <| .ex rfl rfl rfl <| .mv rfl rfl <| .mv rfl rfl <| .nil <| .seq <| .reg <| .fa rfl rfl <| .ldE rfl rfl rfl rfl <| .mv rfl rfl <| .ia rfl rfl rfl (by assumption) <| .aF rfl rfl rfl <| .row1P rfl rfl rfl rfl rfl rfl rfl rfl <| .build (cs := [_, _]) rfl rfl rfl <| .new rfl <| .stA rfl rfl rfl rfl rfl rfl <| .nil <| .seq <| .seq <| .reg <| .mv rfl rfl <| .len rfl rfl rfl <| .gtr rfl rfl rfl (fun h2 => ?_) (fun h2 => ?_)
      · have hF : downF (give n) m.cs buf pre.length a = give n a (mine m.cs pre.length buf) := by unfold downF; rw [if_pos (by omega)]
        refine .nil <| .condT rfl <| .reg <| .fa rfl rfl <| .ldE rfl rfl rfl rfl <| .mv rfl rfl <| .ia rfl rfl rfl (by assumption) <| .aF rfl rfl rfl <| .mv rfl rfl <| .cz rfl rfl rfl (HG a (mine m.cs pre.length buf) hwf (by omega)) .refl rfl rfl rfl (by decide) <| .stA rfl rfl rfl rfl rfl rfl <| .nil <| .seq <| .seq <| .reg <| .mv rfl rfl <| .gtr rfl rfl rfl (fun h3 => ?_) (fun h3 => ?_)
        · obtain ⟨c, hcc⟩ : ∃ c, m.cs[pre.length - 1]? = some c := ⟨_, getD_at (by have := hm.2.1; omega)⟩
          have hcc' : m.cs[((pre.length : Int) - 1).toNat]? = some c := by rw [show ((pre.length : Int) - 1).toNat = pre.length - 1 by omega]; exact hcc
          have hcg : m.cs.getD (pre.length - 1) 0 = c := by simp [List.getD, hcc]
          refine .nil <| .condT rfl <| .regD <| .fa rfl rfl <| .ldE rfl rfl rfl rfl <| .fa rfl rfl <| .ldE rfl rfl rfl rfl <| .mv rfl rfl <| .sub rfl rfl rfl (by omega) <| .iaI rfl rfl rfl (by omega) (by assumption) <| .ldF rfl rfl rfl <| .row1P rfl rfl rfl rfl rfl rfl rfl rfl <| .ap rfl rfl rfl rfl rfl (by simp; omega) (by decide) <| .fa rfl rfl <| .st1 rfl rfl rfl rfl rfl (of_decide_eq_true rfl) <| .nil (by kernel_rfl) <| .seq <| .reg <| .fa rfl rfl <| .ldE rfl rfl rfl rfl <| .fa rfl rfl <| .ldE rfl rfl rfl rfl <| .ap rfl rfl rfl rfl rfl (by simp; omega) (by decide) <| .fa rfl rfl <| .st1 rfl rfl rfl rfl rfl (of_decide_eq_true rfl) <| .nil <| .reg <| .fa rfl rfl <| .ldE rfl rfl rfl rfl <| .fa rfl rfl <| .ldE rfl rfl rfl rfl <| .ap rfl rfl rfl rfl rfl (by simp; omega) (by decide) <| .fa rfl rfl <| .st1 rfl rfl rfl rfl rfl (of_decide_eq_true rfl) <| .nil <| .inBlock <| .reg <| .mv rfl rfl <| .add rfl rfl rfl (by omega) <| .mv rfl rfl <| .nil <| hT0 <| ?_
          exact RA.wr [_, _, _, _, _] (ih (pre ++ [a]) ⟨out.ts ++ (give n a (mine m.cs pre.length buf)).ts, (out.cs ++ [c]) ++ (give n a (mine m.cs pre.length buf)).cs⟩ _ (by simp [hc]) (by simp only [List.length_append, List.length_cons, List.length_nil]; omega) (by simp only [List.length_append, List.length_cons, List.length_nil]; omega) (by simp only [catGo, hF] at hQ; rw [if_neg (by omega), hcg] at hQ; simp only [List.append_assoc, List.cons_append, List.nil_append, List.append_nil, List.length_append, List.length_cons, List.length_nil, Nat.zero_add] at hQ ⊢; exact hQ)) nT0 (hm := by exact .b rfl rfl (.same rfl) <| .b rfl rfl (.same rfl) <| .b rfl rfl (.box2 (.row rfl) (.row rfl)) <| .r rfl rfl (fun h => by cases h) <| .r rfl rfl (fun _ => rfl) .nil)
        · refine .nil <| .condF rfl <| .skip <| .seq <| .reg <| .fa rfl rfl <| .ldE rfl rfl rfl rfl <| .fa rfl rfl <| .ldE rfl rfl rfl rfl <| .ap rfl rfl rfl rfl rfl (by simp; omega) (by decide) <| .fa rfl rfl <| .st1 rfl rfl rfl rfl rfl (of_decide_eq_true rfl) <| .nil <| .reg <| .fa rfl rfl <| .ldE rfl rfl rfl rfl <| .fa rfl rfl <| .ldE rfl rfl rfl rfl <| .ap rfl rfl rfl rfl rfl (by simp; omega) (by decide) <| .fa rfl rfl <| .st1 rfl rfl rfl rfl rfl (of_decide_eq_true rfl) <| .nil <| .inBlock <| .reg <| .mv rfl rfl <| .add rfl rfl rfl (by omega) <| .mv rfl rfl <| .nil <| hT0 <| ?_
          exact RA.wr [_, _, _, _, _] (ih (pre ++ [a]) ⟨out.ts ++ (give n a (mine m.cs pre.length buf)).ts, out.cs ++ (give n a (mine m.cs pre.length buf)).cs⟩ _ (by simp [hc]) (by simp only [List.length_append, List.length_cons, List.length_nil]; omega) (by simp only [List.length_append, List.length_cons, List.length_nil]; omega) (by simp only [catGo, hF] at hQ; rw [if_pos (by omega)] at hQ; simp only [List.append_assoc, List.cons_append, List.nil_append, List.append_nil, List.length_append, List.length_cons, List.length_nil, Nat.zero_add] at hQ ⊢; exact hQ)) nT0 (hm := by exact .b rfl rfl (.same rfl) <| .b rfl rfl (.same rfl) <| .b rfl rfl (.box2 (.row rfl) (.row rfl)) <| .r rfl rfl (fun h => by cases h) <| .r rfl rfl (fun _ => rfl) .nil)
      · have hF : downF (give n) m.cs buf pre.length a = ⟨[a], []⟩ := by unfold downF; rw [if_neg (by omega)]
        refine .nil <| .condF rfl <| .skip <| .seq <| .seq <| .reg <| .mv rfl rfl <| .gtr rfl rfl rfl (fun h4 => ?_) (fun h4 => ?_)
        · obtain ⟨c, hcc⟩ : ∃ c, m.cs[pre.length - 1]? = some c := ⟨_, getD_at (by have := hm.2.1; omega)⟩
          have hcc' : m.cs[((pre.length : Int) - 1).toNat]? = some c := by rw [show ((pre.length : Int) - 1).toNat = pre.length - 1 by omega]; exact hcc
          have hcg : m.cs.getD (pre.length - 1) 0 = c := by simp [List.getD, hcc]
          refine .nil <| .condT rfl <| .regD <| .fa rfl rfl <| .ldE rfl rfl rfl rfl <| .fa rfl rfl <| .ldE rfl rfl rfl rfl <| .mv rfl rfl <| .sub rfl rfl rfl (by omega) <| .iaI rfl rfl rfl (by omega) (by assumption) <| .ldF rfl rfl rfl <| .row1P rfl rfl rfl rfl rfl rfl rfl rfl <| .ap rfl rfl rfl rfl rfl (by simp; omega) (by decide) <| .fa rfl rfl <| .st1 rfl rfl rfl rfl rfl (of_decide_eq_true rfl) <| .nil (by kernel_rfl) <| .seq <| .reg <| .fa rfl rfl <| .ldE rfl rfl rfl rfl <| .fa rfl rfl <| .ldE rfl rfl rfl rfl <| .ap rfl rfl rfl rfl rfl (by simp; omega) (by decide) <| .fa rfl rfl <| .st1 rfl rfl rfl rfl rfl (of_decide_eq_true rfl) <| .nil <| .reg <| .fa rfl rfl <| .ldE rfl rfl rfl rfl <| .fa rfl rfl <| .ldE rfl rfl rfl rfl <| .ap rfl rfl rfl rfl rfl (by simp; omega) (by decide) <| .fa rfl rfl <| .st1 rfl rfl rfl rfl rfl (of_decide_eq_true rfl) <| .nil <| .inBlock <| .reg <| .mv rfl rfl <| .add rfl rfl rfl (by omega) <| .mv rfl rfl <| .nil <| hT0 <| ?_
          exact RA.wr [_, _, _, _, _] (ih (pre ++ [a]) ⟨out.ts ++ [a], (out.cs ++ [c])⟩ _ (by simp [hc]) (by simp only [List.length_append, List.length_cons, List.length_nil]; omega) (by simp only [List.length_append, List.length_cons, List.length_nil]; omega) (by simp only [catGo, hF] at hQ; rw [if_neg (by omega), hcg] at hQ; simp only [List.append_assoc, List.cons_append, List.nil_append, List.append_nil, List.length_append, List.length_cons, List.length_nil, Nat.zero_add] at hQ ⊢; exact hQ)) nT0 (hm := by exact .b rfl rfl (.same rfl) <| .b rfl rfl (.same rfl) <| .b rfl rfl (.box2 (.row rfl) (.row rfl)) <| .s rfl rfl (fun h => by cases h) rfl (fun _ _ _ q1 q2 => by rw [q1] at q2; cases q2; exact .refl) <| .x rfl rfl (by simp; rfl) (fun _ => rfl) .nil)
        · refine .nil <| .condF rfl <| .skip <| .seq <| .reg <| .fa rfl rfl <| .ldE rfl rfl rfl rfl <| .fa rfl rfl <| .ldE rfl rfl rfl rfl <| .ap rfl rfl rfl rfl rfl (by simp; omega) (by decide) <| .fa rfl rfl <| .st1 rfl rfl rfl rfl rfl (of_decide_eq_true rfl) <| .nil <| .reg <| .fa rfl rfl <| .ldE rfl rfl rfl rfl <| .fa rfl rfl <| .ldE rfl rfl rfl rfl <| .ap rfl rfl rfl rfl rfl (by simp; omega) (by decide) <| .fa rfl rfl <| .st1 rfl rfl rfl rfl rfl (of_decide_eq_true rfl) <| .nil <| .inBlock <| .reg <| .mv rfl rfl <| .add rfl rfl rfl (by omega) <| .mv rfl rfl <| .nil <| hT0 <| ?_
          exact RA.wr [_, _, _, _, _] (ih (pre ++ [a]) ⟨out.ts ++ [a], out.cs⟩ _ (by simp [hc]) (by simp only [List.length_append, List.length_cons, List.length_nil]; omega) (Nat.le_trans ho2 (Nat.mul_le_mul_right _ (by simp))) (by simp only [catGo, hF] at hQ; rw [if_pos (by omega)] at hQ; simp only [List.append_assoc, List.cons_append, List.nil_append, List.append_nil, List.length_append, List.length_cons, List.length_nil, Nat.zero_add] at hQ ⊢; exact hQ)) nT0 (hm := by exact .b rfl rfl (.same rfl) <| .b rfl rfl (.same rfl) <| .b rfl rfl (.box2 (.row rfl) (.row rfl)) <| .s rfl rfl (fun h => by cases h) rfl (fun _ _ _ q1 q2 => by rw [q1] at q2; cases q2; exact .refl) <| .x rfl rfl (by simp) (fun _ => rfl) .nil)
  refine RA.freshT 5 0 5 nT0 rfl rfl rfl (RA.freshT 5 1 1 nT0 rfl rfl rfl ?_)
  exact RA.wr [_, _, _, _, _] (L0 m.ts [] ⟨[], []⟩ _ rfl (by simp) (by simp) hQ) nT0 (hm := by exact .b rfl rfl (.same rfl) <| .b rfl rfl (.same rfl) <| .b rfl rfl (.box2 (.row rfl) (.row rfl)) <| .x rfl rfl rfl (fun h => by cases h) <| .x rfl rfl rfl (fun _ => rfl) .nil)
theorem pushGo_stop {g : Tr → List Ms → Mn} : ∀ {f : Nat} {m : Mn} {buf : List Ms}, ¬ buf.length > 6 → pushGo g f m buf = (m, buf)
  | 0, _, _, _ => rfl
  | f + 1, m, buf, h => by rw [pushGo, if_neg h]
theorem s_l4GiveS (n : Nat) (t : Tr) (ms : List Ms) (HG : ∀ (t : Tr) (ms : List Ms), Wf n t → t.w + 2 * ms.length ≤ 10000 → RF Y 170 [.agg t.e, .fro true 3 (ms.map Ms.c)] (Mn.o (give n t ms)) []) (ht : Wf (n + 1) t) (hw : t.w + 2 * ms.length ≤ 10000) : RF Y 170 [.agg t.e, .fro true 3 (ms.map Ms.c)] (Mn.o (give (n + 1) t ms)) [] := by
  refine RF.s2 rfl rfl rfl fun Q hQ => ?_
  refine .seq <| .reg <| .box rfl rfl rfl <| .new rfl <| .nil <| .seq <| .seq <| .reg <| .fa rfl rfl <| .ldE rfl rfl rfl rfl <| .bB (fun h1 => ?_) (fun h1 => ?_)
  · have hp4 : t.ps.length ≤ 4 := by
      rcases ht with ht | ht
      · exact ht.2.2.1
      · exact absurd h1 (by simp [ht.2.1])
    have hma := mapAll_len ms t.ps
    rw [show give (n + 1) t ms = leavesOf (mapAll t.ps ms) by rw [give, if_pos h1]] at hQ
    refine .nil <| .condT rfl <| .seq <| .reg <| .fa rfl rfl <| .ldE rfl rfl rfl rfl <| .mv rfl rfl <| .c rfl rfl rfl (s_MapAll t.ps ms (by omega)) .refl rfl rfl rfl (by decide) <| .cz rfl rfl rfl (s_l4Leaf (mapAll t.ps ms) (by omega)) .refl rfl rfl rfl (by decide) <| .stA rfl rfl rfl rfl rfl rfl <| .nil <| .ret rfl hQ (.agg2 (.ox rfl (by first | exact fun _ => rfl | exact fun h => by cases h)) (.ox rfl (by first | exact fun _ => rfl | exact fun h => by cases h))) LeBs.refl
  · obtain ⟨h0, hl, hp, h2, hc, hk⟩ : 0 < n ∧ t.leaf = false ∧ t.ps = [] ∧ 2 ≤ t.ks.length ∧ t.cs.length + 1 = t.ks.length ∧ ∀ k, k ∈ t.ks → Wf n k := by
      rcases ht with ht | ht
      · exact absurd ht.2.1 (by simp [h1])
      · exact ht
    have hmW : WfM n ⟨t.ks, t.cs⟩ := ⟨by dsimp only; omega, hc, hk⟩
    have hs := shrink_len (t.bs ++ ms)
    have hwe : t.w = 2 * t.bs.length + Tr.wL t.ks := by rw [Tr.w_eq]; simp [hl, hp]
    rw [List.length_append] at hs
    rw [show give (n + 1) t ms = fin' (give n) (pushGo (give n) (shrink (t.bs ++ ms)).length ⟨t.ks, t.cs⟩ (shrink (t.bs ++ ms))) by rw [give, if_neg (by simp [hl])]] at hQ
    refine .nil <| .condF rfl <| .skip <| .seq <| .reg <| .row0 rfl rfl rfl <| .fa rfl rfl <| .ldE rfl rfl rfl rfl <| .ap rfl rfl rfl rfl rfl (by simp; omega) (by decide) <| .mv rfl rfl <| .ap rfl rfl rfl rfl rfl (by simp; omega) (by decide) <| .c rfl rfl rfl (s_Shrink (t.bs ++ ms) (by simp only [List.length_append]; omega)) (.c (.fz (.rw (fun h => h))) .n) rfl rfl rfl (by decide) <| .mv rfl rfl <| .nil <| .seq <| .reg <| .fa rfl rfl <| .ldE rfl rfl rfl rfl <| .fa rfl rfl <| .ldE rfl rfl rfl rfl <| .build (cs := [_, _]) rfl rfl rfl <| .new rfl <| .stA rfl rfl rfl rfl rfl rfl <| .nil <| .seq <| .block <| ?_
    refine RA.loopI fun T0 hT0 nT0 eT0 => ?_
    have L0 : ∀ (f : Nat) (m : Mn) (buf : List Ms) (Q : Qst), WfM n m → Tr.wL m.ts + 2 * buf.length ≤ 10000 → buf.length ≤ f → 2 ≤ m.ts.length → Q (Mn.o (fin' (give n) (pushGo (give n) f m buf))) [] →
        RA Y a170 T0 [(4, .elt 0 0 0), (5, .row 4), (6, .elt 1 0 0)] [(0, .box [.emp, .emp]), (1, .box [.row 2, .row 3]), (2, .row false 5 0 (m.ts.map Tr.e)), (3, .row true 1 0 (m.cs.map Ic)), (4, .row true 3 0 (buf.map Ms.c))] 5 Q := by
      intro f
      induction f using Nat.strongRecOn with
      | _ f IH =>
        intro m buf Q hm hw hf h2l hQ
        have hml := wfL_len hm.2.2
        have hmc := hm.2.1
        rw [eT0]
        refine .seq <| .seq <| .reg <| .mv rfl rfl <| .len rfl rfl rfl <| .gtr rfl rfl rfl (fun h2 => ?_) (fun h2 => ?_)
        · obtain ⟨f, rfl⟩ : ∃ f', f = f' + 1 := ⟨f - 1, by omega⟩
          rw [pushGo, if_pos (show buf.length > 6 by omega)] at hQ
          have hlt := most_lt (m := m) (buf := buf) hm.1
          obtain ⟨a, ha⟩ : ∃ a, m.ts[most m buf]? = some a := ⟨_, getD_at hlt⟩
          have hga : m.ts.getD (most m buf) default = a := by simp [List.getD, ha]
          rw [hga] at hQ
          have hwf := hm.2.2 a (List.mem_of_getElem? ha)
          have haw := Tr.wL_split ha
          have hmi := mine_rest m.cs (most m buf) buf
          have hmp := most_pos (m := m) (buf := buf) hmc (by omega)
          obtain ⟨hx, hx4⟩ := give_wf n a (mine m.cs (most m buf) buf) hwf
          have hx5 := wfL_len hx.2.2
          have hx6 := hx.2.1
          have hx7 := hx.1
          have hp := putM_wf hm hlt hx
          have hpw : Tr.wL (putM m (most m buf) (give n a (mine m.cs (most m buf) buf))).ts = Tr.wL (m.ts.take (most m buf)) + Tr.wL (give n a (mine m.cs (most m buf) buf)).ts + Tr.wL (m.ts.drop (most m buf + 1)) := by simp only [putM]; rw [Tr.wL_app, Tr.wL_app]
          have hpl : m.ts.length ≤ (putM m (most m buf) (give n a (mine m.cs (most m buf) buf))).ts.length := by simp only [putM, List.length_append, List.length_take, List.length_drop]; omega
          refine .nil <| .condT rfl <| .skip <| .block <| .seq <| .reg <| .aE rfl rfl rfl rfl <| .mv rfl rfl <| .c rfl rfl rfl (s_l4Most m buf (by omega) (by omega) (by omega)) .refl rfl rfl rfl (by decide) <| .mv rfl rfl <| .nil <| .seq <| .reg <| .aE rfl rfl rfl rfl <| .mv rfl rfl <| .mv rfl rfl <| .c rfl rfl rfl (s_l4Split m buf (most m buf) (by omega) (by omega)) .refl rfl rfl rfl (by decide) <| .mv rfl rfl <| .ex rfl rfl rfl <| .ex rfl rfl rfl <| .mv rfl rfl <| .mv rfl rfl <| .nil <| .seq <| .reg <| .mv rfl rfl <| .mv rfl rfl <| .nil <| .regD <| .aE rfl rfl rfl rfl <| .mv rfl rfl <| .fa rfl rfl <| .ldE rfl rfl rfl rfl <| .mv rfl rfl <| .iaR rfl rfl rfl rfl (by rw [List.length_map]; exact hlt) <| .aR rfl rfl rfl (by rw [List.getElem?_map, ha]; rfl) rfl <| .mv rfl rfl <| .cz rfl rfl rfl (HG a (mine m.cs (most m buf) buf) hwf (by omega)) .refl rfl rfl rfl (by decide) <| .cz rfl rfl rfl (s_l4Put m (give n a (mine m.cs (most m buf) buf)) (most m buf) hlt hmc (by omega) (by omega)) .refl rfl rfl rfl (by decide) <| .stA rfl rfl rfl rfl rfl rfl <| .nil (by kernel_rfl) <| .inBlock <| hT0 <| ?_
          exact RA.ws [_, _, _, _, _] (IH f (by omega) (putM m (most m buf) (give n a (mine m.cs (most m buf) buf))) (rest m.cs (most m buf) buf) _ hp (by omega) (by omega) (by omega) hQ) nT0 (by exact .l rfl rfl rfl <| .r rfl rfl <| .l rfl rfl rfl .nil) (by exact .b rfl rfl (.same rfl) <| .b rfl rfl (.box2 (.row rfl) (.row rfl)) <| .r rfl rfl (fun h => by cases h) <| .r rfl rfl (fun _ => rfl) <| .r rfl rfl (fun _ => rfl) .nil)
        · rw [pushGo_stop (by omega)] at hQ
          refine .nil <| .condF rfl <| .exit rfl <| .seq <| .seq <| .reg <| .fa rfl rfl <| .ldE rfl rfl rfl rfl <| .len rfl rfl rfl <| .gtr rfl rfl rfl (fun h3 => ?_) (fun h3 => ?_)
          · rw [show fin' (give n) (m, buf) = pack (down (give n) m buf) by unfold fin'; rw [if_pos (by dsimp only; omega)]] at hQ
            obtain ⟨hd1, hd2, hd3⟩ := down_wf (fun t ms ht => give_wf n t ms ht) hm buf
            have hd4 := wfL_len hd1.2.2
            have hd5 := hd1.2.1
            refine .nil <| .condT rfl <| .seq <| .reg <| .aE rfl rfl rfl rfl <| .mv rfl rfl <| .cz rfl rfl rfl (s_l4Down n m buf HG hm hw) .refl rfl rfl rfl (by decide) <| .cz rfl rfl rfl (s_l4Pack (down (give n) m buf) (by omega) hd5 (by omega)) .refl rfl rfl rfl (by decide) <| .stA rfl rfl rfl rfl rfl rfl <| .nil <| .ret rfl hQ (.agg2 (.ox rfl (by first | exact fun _ => rfl | exact fun h => by cases h)) (.ox rfl (by first | exact fun _ => rfl | exact fun h => by cases h))) LeBs.refl
          · rw [show fin' (give n) (m, buf) = ⟨[nodeT m.cs m.ts buf], []⟩ by unfold fin'; rw [if_neg (by dsimp only; omega)]] at hQ
            refine .nil <| .condF rfl <| .skip <| .seq <| .reg <| .fa rfl rfl <| .ldE rfl rfl rfl rfl <| .fa rfl rfl <| .ldE rfl rfl rfl rfl <| .mv rfl rfl <| .build (cs := [_, _, _, _, _]) rfl rfl rfl <| .row1 (qs := [_, _, _, _, _]) (u := [_, _, _]) rfl rfl rfl rfl rfl rfl rfl rfl <| .build (cs := [_, _]) rfl rfl rfl <| .stA rfl rfl rfl rfl rfl rfl <| .nil <| .ret rfl hQ (.agg2 (.one (fun h => by cases h) rfl (leTr rfl .emp (.rx (fun _ => rfl) rfl) (.kx rfl) (.rx (fun _ => rfl) rfl))) .empO) LeBs.refl
    have F0 : ∀ (f : Nat) (m : Mn) (buf : List Ms) (Q : Qst), WfM n m → Tr.wL m.ts + 2 * buf.length ≤ 10000 → buf.length ≤ f → 2 ≤ m.ts.length → Q (Mn.o (fin' (give n) (pushGo (give n) f m buf))) [] →
        RA Y a170 T0 [(4, .elt 0 0 0), (5, .row 2), (6, .elt 1 0 0)] [(0, .box [.emp, .emp]), (1, .box (Mn.e m)), (2, .row true 3 0 (buf.map Ms.c))] 3 Q := by
      intro f m buf Q hm hw hf h2l hQ
      have IH := fun (f' : Nat) (_ : f' < f) => L0 f'
      have hml := wfL_len hm.2.2
      have hmc := hm.2.1
      rw [eT0]
      refine .seq <| .seq <| .reg <| .mv rfl rfl <| .len rfl rfl rfl <| .gtr rfl rfl rfl (fun h4 => ?_) (fun h4 => ?_)
      · obtain ⟨f, rfl⟩ : ∃ f', f = f' + 1 := ⟨f - 1, by omega⟩
        rw [pushGo, if_pos (show buf.length > 6 by omega)] at hQ
        have hlt := most_lt (m := m) (buf := buf) hm.1
        obtain ⟨a, ha⟩ : ∃ a, m.ts[most m buf]? = some a := ⟨_, getD_at hlt⟩
        have hga : m.ts.getD (most m buf) default = a := by simp [List.getD, ha]
        rw [hga] at hQ
        have hwf := hm.2.2 a (List.mem_of_getElem? ha)
        have haw := Tr.wL_split ha
        have hmi := mine_rest m.cs (most m buf) buf
        have hmp := most_pos (m := m) (buf := buf) hmc (by omega)
        obtain ⟨hx, hx4⟩ := give_wf n a (mine m.cs (most m buf) buf) hwf
        have hx5 := wfL_len hx.2.2
        have hx6 := hx.2.1
        have hx7 := hx.1
        have hp := putM_wf hm hlt hx
        have hpw : Tr.wL (putM m (most m buf) (give n a (mine m.cs (most m buf) buf))).ts = Tr.wL (m.ts.take (most m buf)) + Tr.wL (give n a (mine m.cs (most m buf) buf)).ts + Tr.wL (m.ts.drop (most m buf + 1)) := by simp only [putM]; rw [Tr.wL_app, Tr.wL_app]
        have hpl : m.ts.length ≤ (putM m (most m buf) (give n a (mine m.cs (most m buf) buf))).ts.length := by simp only [putM, List.length_append, List.length_take, List.length_drop]; omega
        refine .nil <| .condT rfl <| .skip <| .block <| .seq <| .reg <| .aE rfl rfl rfl rfl <| .mv rfl rfl <| .c rfl rfl rfl (s_l4Most m buf (by omega) (by omega) (by omega)) .refl rfl rfl rfl (by decide) <| .mv rfl rfl <| .nil <| .seq <| .reg <| .aE rfl rfl rfl rfl <| .mv rfl rfl <| .mv rfl rfl <| .c rfl rfl rfl (s_l4Split m buf (most m buf) (by omega) (by omega)) .refl rfl rfl rfl (by decide) <| .mv rfl rfl <| .ex rfl rfl rfl <| .ex rfl rfl rfl <| .mv rfl rfl <| .mv rfl rfl <| .nil <| .seq <| .reg <| .mv rfl rfl <| .mv rfl rfl <| .nil <| .regD <| .aE rfl rfl rfl rfl <| .mv rfl rfl <| .fa rfl rfl <| .ldE rfl rfl rfl rfl <| .mv rfl rfl <| .ia rfl rfl rfl ha <| .aF rfl rfl rfl <| .mv rfl rfl <| .cz rfl rfl rfl (HG a (mine m.cs (most m buf) buf) hwf (by omega)) .refl rfl rfl rfl (by decide) <| .cz rfl rfl rfl (s_l4Put m (give n a (mine m.cs (most m buf) buf)) (most m buf) hlt hmc (by omega) (by omega)) .refl rfl rfl rfl (by decide) <| .stA rfl rfl rfl rfl rfl rfl <| .nil (by kernel_rfl) <| .inBlock <| hT0 <| ?_
        exact RA.ws [_, _, _, _, _] (IH f (by omega) (putM m (most m buf) (give n a (mine m.cs (most m buf) buf))) (rest m.cs (most m buf) buf) _ hp (by omega) (by omega) (by omega) hQ) nT0 (by exact .l rfl rfl rfl <| .r rfl rfl <| .l rfl rfl rfl .nil) (by exact .b rfl rfl (.same rfl) <| .b rfl rfl (.box2 (.row rfl) (.row rfl)) <| .r rfl rfl (fun h => by cases h) <| .r rfl rfl (fun _ => rfl) <| .r rfl rfl (fun _ => rfl) .nil)
      · rw [pushGo_stop (by omega)] at hQ
        refine .nil <| .condF rfl <| .exit rfl <| .seq <| .seq <| .reg <| .fa rfl rfl <| .ldE rfl rfl rfl rfl <| .len rfl rfl rfl <| .gtr rfl rfl rfl (fun h5 => ?_) (fun h5 => ?_)
        · rw [show fin' (give n) (m, buf) = pack (down (give n) m buf) by unfold fin'; rw [if_pos (by dsimp only; omega)]] at hQ
          obtain ⟨hd1, hd2, hd3⟩ := down_wf (fun t ms ht => give_wf n t ms ht) hm buf
          have hd4 := wfL_len hd1.2.2
          have hd5 := hd1.2.1
          refine .nil <| .condT rfl <| .seq <| .reg <| .aE rfl rfl rfl rfl <| .mv rfl rfl <| .cz rfl rfl rfl (s_l4Down n m buf HG hm hw) .refl rfl rfl rfl (by decide) <| .cz rfl rfl rfl (s_l4Pack (down (give n) m buf) (by omega) hd5 (by omega)) .refl rfl rfl rfl (by decide) <| .stA rfl rfl rfl rfl rfl rfl <| .nil <| .ret rfl hQ (.agg2 (.ox rfl (by first | exact fun _ => rfl | exact fun h => by cases h)) (.ox rfl (by first | exact fun _ => rfl | exact fun h => by cases h))) LeBs.refl
        · rw [show fin' (give n) (m, buf) = ⟨[nodeT m.cs m.ts buf], []⟩ by unfold fin'; rw [if_neg (by dsimp only; omega)]] at hQ
          refine .nil <| .condF rfl <| .skip <| .seq <| .reg <| .fa rfl rfl <| .ldE rfl rfl rfl rfl <| .fa rfl rfl <| .ldE rfl rfl rfl rfl <| .mv rfl rfl <| .build (cs := [_, _, _, _, _]) rfl rfl rfl <| .row1 (qs := [_, _, _, _, _]) (u := [_]) rfl rfl rfl rfl rfl rfl rfl rfl <| .build (cs := [_, _]) rfl rfl rfl <| .stA rfl rfl rfl rfl rfl rfl <| .nil <| .ret rfl hQ (.agg2 (.one (fun h => by cases h) rfl (leTr rfl .emp (.rx (fun _ => rfl) rfl) (.kx rfl) (.rx (fun _ => rfl) rfl))) .empO) LeBs.refl
    exact RA.ws [_, _, _] (F0 _ ⟨t.ks, t.cs⟩ (shrink (t.bs ++ ms)) _ hmW (by dsimp only; omega) (Nat.le_refl _) (by dsimp only; omega) hQ) nT0 (by exact .l rfl rfl rfl <| .r rfl rfl <| .l rfl rfl rfl .nil) (by exact .b rfl rfl (.same rfl) <| .b rfl rfl (.box2 (.v (.rx (fun h => by cases h) rfl) rfl) (.v .refl rfl)) <| .r rfl rfl (fun _ => rfl) .nil)
theorem s_l4Give : ∀ (n : Nat) (t : Tr) (ms : List Ms), Wf n t → t.w + 2 * ms.length ≤ 10000 → RF Y 170 [.agg t.e, .fro true 3 (ms.map Ms.c)] (Mn.o (give n t ms)) []
  | 0, _, _, h, _ => h.elim
  | n + 1, t, ms, h, hw => s_l4GiveS n t ms (s_l4Give n) h hw
end Go.Proofs.Ytjjocahgbmibeaa
