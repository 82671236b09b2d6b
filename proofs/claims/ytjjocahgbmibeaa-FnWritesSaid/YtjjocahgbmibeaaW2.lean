/- Walks: what messages make of maps (the reference). -/
import Derived.Test.YtjjocahgbmibeaaW1
namespace Go.Proofs.Ytjjocahgbmibeaa
open Go.Eng
set_option maxRecDepth 4000
set_option linter.unusedSimpArgs false
set_option linter.unusedVariables false
theorem putGo_len (k v : Int) : ∀ (ps : List Pr) (pt : Bool), (putGo k v pt ps).length ≤ ps.length + (if pt then 0 else 1)
  | [], pt => by cases pt <;> simp [putGo]
  | p :: ps, pt => by
    have h1 := putGo_len k v ps true
    have h2 := putGo_len k v ps pt
    simp only [putGo]
    cases pt <;> split <;> split <;> simp at * <;> omega
theorem mapDo_len (ps : List Pr) (m : Ms) : (mapDo ps m).length ≤ ps.length + 1 := by
  unfold mapDo put without
  have h1 := putGo_len m.k m.v ps false
  have h2 := putGo_len m.k (clamp ((mapGet m.k ps).1 + m.v)) ps false
  have h3 := List.length_filter_le (fun p : Pr => !decide (p.k = m.k)) ps
  split
  · split
    · simpa using h1
    · split
      · omega
      · split
        · simpa using h2
        · omega
  · omega
theorem mapAll_len : ∀ (ms : List Ms) (ps : List Pr), (mapAll ps ms).length ≤ ps.length + ms.length
  | [], ps => by simp [mapAll]
  | m :: ms, ps => by
    have h1 := mapAll_len ms (mapDo ps m)
    have h2 := mapDo_len ps m
    simp [mapAll] at *; omega
theorem mapGet_ok : ∀ {ps : List Pr} {lo k : Int}, mOk lo ps = true → -1000000000 ≤ (mapGet k ps).1 ∧ (mapGet k ps).1 ≤ 1000000000
  | [], _, _, _ => by simp [mapGet]
  | p :: ps, lo, k, h => by
    simp only [mOk, Bool.and_eq_true, decide_eq_true_eq] at h
    simp only [mapGet]
    split
    · exact ⟨h.1.2.2.2.1, h.1.2.2.2.2⟩
    · exact mapGet_ok h.2
def over (ms : List Ms) (k : Int) : Bool := ms.any fun x => x.ok && decide (x.k = k) && decide (x.op = 1 ∨ x.op = 2)
def firstK (k : Int) : List Ms → Nat → Int
  | [], _ => -1
  | m :: ms, n => if m.k = k then n else firstK k ms (n + 1)
theorem firstK_at (k : Int) : ∀ (ms : List Ms) (n : Nat), firstK k ms n = -1 ∨ ∃ (j : Nat) (x : Ms), firstK k ms n = ((n + j : Nat) : Int) ∧ ms[j]? = some x ∧ x.k = k
  | [], n => .inl rfl
  | m :: ms, n => by
    simp only [firstK]
    split
    · rename_i h; exact .inr ⟨0, m, rfl, rfl, h⟩
    · rcases firstK_at k ms (n + 1) with h | ⟨j, x, h1, h2, h3⟩
      · exact .inl h
      · exact .inr ⟨j + 1, x, by rw [h1]; congr 1; omega, by simpa using h2, h3⟩
def shGo : List Ms → List Ms → List Ms
  | out, [] => out
  | out, m :: post => if m.ok = false ∨ m.op = 4 ∨ over post m.k = true then shGo out post else
      if 0 ≤ firstK m.k out 0 ∧ (out.getD (firstK m.k out 0).toNat default).op = 1 ∧ m.op = 3 then
        shGo (out.set (firstK m.k out 0).toNat ⟨1, m.k, clamp ((out.getD (firstK m.k out 0).toNat default).v + m.v)⟩) post
      else shGo (out ++ [m]) post
def shrink (ms : List Ms) : List Ms := shGo [] ms
theorem s_MapDo (ps : List Pr) (m : Ms) (h : ps.length ≤ 1000000) : RF Y 126 [.fro true 2 (ps.map Pr.c), .agg (Ms.c m)] (.own true 2 0 ((mapDo ps m).map Pr.c)) [] := by
  refine RF.s2 rfl rfl rfl fun Q hQ => ?_
  refine .seq <| .reg <| .box rfl rfl rfl <| .mv rfl rfl <| .nil <| .seq <| .seq <| .reg <| .mv rfl rfl <| .c rfl rfl rfl (s_MapOk ps h) .refl rfl rfl rfl (by decide) <| .bB (fun h1 => ?_) (fun h1 => ?_)
  · refine .notT rfl rfl <| .mv rfl rfl <| .g rfl rfl <| .aE rfl rfl rfl rfl <| .g rfl rfl <| .c rfl rfl rfl (s_MsgOk ..) .refl rfl rfl rfl (by decide) <| .bB (fun h2 => ?_) (fun h2 => ?_)
    · refine .g rfl rfl <| .notT rfl rfl <| .pickF rfl rfl rfl <| .nil <| .condF rfl <| .skip <| .seq <| .reg <| .mv rfl rfl <| .fa rfl rfl <| .ldE rfl rfl rfl rfl <| .c rfl rfl rfl (s_MapGet ps m.k h) .refl rfl rfl rfl (by decide) <| .mv rfl rfl <| .ex rfl rfl rfl <| .ex rfl rfl rfl <| .mv rfl rfl <| .mv rfl rfl <| .nil <| .seq <| .seq <| .reg <| .fa rfl rfl <| .ldE rfl rfl rfl rfl <| .nil <| .block <| .seq <| .reg <| .eql rfl rfl rfl (fun h3 => ?_) (fun h3 => ?_)
      · rw [show mapDo ps m = put m.k m.v ps by simp [mapDo, *]] at hQ
        refine .mv rfl rfl <| .nil <| .condT rfl <| .seq <| .reg <| .mv rfl rfl <| .fa rfl rfl <| .ldE rfl rfl rfl rfl <| .fa rfl rfl <| .ldE rfl rfl rfl rfl <| .c rfl rfl rfl (s_l1Put ps m.k m.v h) .refl rfl rfl rfl (by decide) <| .mv rfl rfl <| .nil <| .ret rfl hQ (.rw (by first | exact fun _ => rfl | exact fun h => by cases h)) LeBs.refl
      · refine .mv rfl rfl <| .nil <| .condF rfl <| .seq <| .reg <| .eql rfl rfl rfl (fun h4 => ?_) (fun h4 => ?_)
        · rw [show mapDo ps m = without m.k ps by simp [mapDo, *]] at hQ
          refine .mv rfl rfl <| .nil <| .condT rfl <| .seq <| .reg <| .mv rfl rfl <| .fa rfl rfl <| .ldE rfl rfl rfl rfl <| .c rfl rfl rfl (s_l1Without ps m.k h) .refl rfl rfl rfl (by decide) <| .mv rfl rfl <| .nil <| .ret rfl hQ (.rw (by first | exact fun _ => rfl | exact fun h => by cases h)) LeBs.refl
        · refine .mv rfl rfl <| .nil <| .condF rfl <| .seq <| .reg <| .eql rfl rfl rfl (fun h5 => ?_) (fun h5 => ?_)
          · rw [show mapDo ps m = put m.k (clamp ((mapGet m.k ps).1 + m.v)) ps by simp [mapDo, *]] at hQ
            have hm := h2
            simp only [Ms.ok, decide_eq_true_eq] at hm
            have hg := mapGet_ok (k := m.k) h1
            refine .mv rfl rfl <| .nil <| .condT rfl <| .seq <| .regD <| .mv rfl rfl <| .fa rfl rfl <| .ldE rfl rfl rfl rfl <| .mv rfl rfl <| .fa rfl rfl <| .ldE rfl rfl rfl rfl <| .add rfl rfl rfl (by omega) <| .c rfl rfl rfl (s_l1Clamp ..) .refl rfl rfl rfl (by decide) <| .c rfl rfl rfl (s_l1Put ps m.k _ h) .refl rfl rfl rfl (by decide) <| .mv rfl rfl <| .nil (by kernel_rfl) <| .ret rfl hQ (.rw (by first | exact fun _ => rfl | exact fun h => by cases h)) LeBs.refl
          · rw [show mapDo ps m = ps by simp [mapDo, *]] at hQ
            refine .mv rfl rfl <| .nil <| .condF rfl <| .skip <| .inBlock <| .seq <| .reg <| .row0 rfl rfl rfl <| .mv rfl rfl <| .ap rfl rfl rfl rfl rfl (by simp; omega) (by decide) <| .mv rfl rfl <| .nil <| .ret rfl hQ (.rw (by first | exact fun _ => rfl | exact fun h => by cases h)) LeBs.refl
    · rw [show mapDo ps m = ps by simp [mapDo, *]] at hQ
      refine .g rfl rfl <| .notF rfl rfl <| .pickF rfl rfl rfl <| .nil <| .condT rfl <| .seq <| .reg <| .row0 rfl rfl rfl <| .mv rfl rfl <| .ap rfl rfl rfl rfl rfl (by simp; omega) (by decide) <| .mv rfl rfl <| .nil <| .ret rfl hQ (.rw (by first | exact fun _ => rfl | exact fun h => by cases h)) LeBs.refl
  · rw [show mapDo ps m = ps by simp [mapDo, *]] at hQ
    refine .notF rfl rfl <| .mv rfl rfl <| .gs rfl rfl rfl <| .gs rfl rfl rfl <| .gs rfl rfl rfl <| .pickT rfl rfl rfl <| .nil <| .condT rfl <| .seq <| .reg <| .row0 rfl rfl rfl <| .mv rfl rfl <| .ap rfl rfl rfl rfl rfl (by simp; omega) (by decide) <| .mv rfl rfl <| .nil <| .ret rfl hQ (.rw (by first | exact fun _ => rfl | exact fun h => by cases h)) LeBs.refl
theorem s_MapAll (ps : List Pr) (ms : List Ms) (h : ps.length + ms.length ≤ 1000000) : RF Y 73 [.fro true 2 (ps.map Pr.c), .fro true 3 (ms.map Ms.c)] (.own true 2 0 ((mapAll ps ms).map Pr.c)) [] := by
  refine RF.s2 rfl rfl rfl fun Q hQ => ?_
  refine .seq <| .reg <| .mv rfl rfl <| .nil <| .seq <| .reg <| .row0 rfl rfl rfl <| .mv rfl rfl <| .ap rfl rfl rfl rfl rfl (by simp; omega) (by decide) <| .mv rfl rfl <| .nil <| .seq <| .seq <| .reg <| .mv rfl rfl <| .nil <| .block <| ?_
  refine RA.loopI fun T0 hT0 nT0 eT0 => ?_
  have L0 : ∀ (post pre : List Ms) (out : List Pr) (Q : Qst), ms = pre ++ post → out.length ≤ ps.length + pre.length → Q (.own true 2 0 ((mapAll out post).map Pr.c)) [] → RA Y a73 T0 [(1, .fro true 3 (ms.map Ms.c)), (5, .row 0), (6, i64 pre.length)] [(0, .row true 2 0 (out.map Pr.c))] 1 Q := by
    intro post
    induction post with
    | nil =>
      intro pre out Q hc ho hQ
      have hl : ms.length = pre.length := by simp [hc]
      rw [eT0]
      refine .seq <| .seq <| .reg <| .mv rfl rfl <| .mv rfl rfl <| .len rfl rfl rfl <| .lssF rfl rfl rfl (by omega) <| .nil <| .condF rfl <| .exit rfl <| .seq <| .reg <| .mv rfl rfl <| .mv rfl rfl <| .nil <| .ret rfl hQ (.rw (by first | exact fun _ => rfl | exact fun h => by cases h)) LeBs.refl
    | cons a post ih =>
      intro pre out Q hc ho hQ
      have hl : ms.length = pre.length + post.length + 1 := by simp [hc]; omega
      have ha : ms[pre.length]? = some a := by simp [hc]
      rw [eT0]
      refine .seq <| .seq <| .reg <| .mv rfl rfl <| .mv rfl rfl <| .len rfl rfl rfl <| .lssT rfl rfl rfl (by omega) <| .nil <| .condT rfl <| .skip <| .seq <| .block <| .reg <| .mv rfl rfl <| .mv rfl rfl <| .mv rfl rfl <| .ia rfl rfl rfl (by assumption) <| .aF rfl rfl rfl <| .c rfl rfl rfl (s_MapDo out a (by omega)) .refl rfl rfl rfl (by decide) <| .mv rfl rfl <| .nil <| .inBlock <| .reg <| .mv rfl rfl <| .add rfl rfl rfl (by omega) <| .mv rfl rfl <| .nil <| hT0 <| ?_
      exact RA.wq [_] (ih (pre ++ [a]) (mapDo out a) _ (by simp [hc]) (by have := mapDo_len out a; simp; omega) hQ) nT0
  exact RA.wq [_] (L0 ms [] ps _ rfl (by simp) hQ) nT0
theorem s_l1Over (ms : List Ms) (i : Nat) (m : Ms) (hi : ms[i]? = some m) (h : ms.length ≤ 1000000) : RF Y 186 [.fro true 3 (ms.map Ms.c), i64 i] (.b (over (ms.drop (i + 1)) m.k)) [] := by
  refine RF.s2 rfl rfl rfl fun Q hQ => ?_
  have hi0 := (List.getElem?_eq_some_iff.1 hi).1
  refine .seq <| .reg <| .mv rfl rfl <| .nil <| .seq <| .seq <| .reg <| .mv rfl rfl <| .add rfl rfl rfl (by omega) <| .mv rfl rfl <| .nil <| .block <| ?_
  refine RA.loopI fun T0 hT0 nT0 eT0 => ?_
  have L0 : ∀ (post pre : List Ms)  (Q : Qst), ms = pre ++ post → Q (.b (over post m.k)) [] → RA Y a186 T0 [(0, .fro true 3 (ms.map Ms.c)), (1, i64 i), (5, i64 pre.length)] [] 0 Q := by
    intro post
    induction post with
    | nil =>
      intro pre  Q hc  hQ
      have hl : ms.length = pre.length := by simp [hc]
      rw [eT0]
      refine .seq <| .seq <| .reg <| .mv rfl rfl <| .mv rfl rfl <| .len rfl rfl rfl <| .lssF rfl rfl rfl (by omega) <| .nil <| .condF rfl <| .exit rfl <| .seq <| .reg <| .mv rfl rfl <| .nil <| .ret rfl hQ (.be (by first | (simp [over, *] at *; done) | (simp [over, *] at *; omega))) LeBs.refl
    | cons a post ih =>
      intro pre  Q hc  hQ
      have hl : ms.length = pre.length + post.length + 1 := by simp [hc]; omega
      have ha : ms[pre.length]? = some a := by simp [hc]
      rw [eT0]
      refine .seq <| .seq <| .reg <| .mv rfl rfl <| .mv rfl rfl <| .len rfl rfl rfl <| .lssT rfl rfl rfl (by omega) <| .nil <| .condT rfl <| .skip <| .seq <| .block <| .seq <| .regD <| .mv rfl rfl <| .mv rfl rfl <| .ia rfl rfl rfl (by assumption) <| .aF rfl rfl rfl <| .c rfl rfl rfl (s_MsgOk ..) .refl rfl rfl rfl (by decide) <| .bB (fun h2 => ?_) (fun h2 => ?_)
      · refine .mv rfl rfl <| .g rfl rfl <| .mv rfl rfl <| .g rfl rfl <| .mv rfl rfl <| .g rfl rfl <| .ia rfl rfl rfl (by assumption) <| .g rfl rfl <| .faF rfl rfl <| .g rfl rfl <| .ldF rfl rfl rfl <| .g rfl rfl <| .mv rfl rfl <| .g rfl rfl <| .mv rfl rfl <| .g rfl rfl <| .ia rfl rfl rfl (by assumption) <| .g rfl rfl <| .faF rfl rfl <| .g rfl rfl <| .ldF rfl rfl rfl <| .g rfl rfl <| .eql rfl rfl rfl (fun h3 => ?_) (fun h3 => ?_)
        · refine .pickT rfl rfl rfl <| .mv rfl rfl <| .g rfl rfl <| .mv rfl rfl <| .g rfl rfl <| .mv rfl rfl <| .g rfl rfl <| .ia rfl rfl rfl (by assumption) <| .g rfl rfl <| .faF rfl rfl <| .g rfl rfl <| .ldF rfl rfl rfl <| .g rfl rfl <| .eql rfl rfl rfl (fun h4 => ?_) (fun h4 => ?_)
          · refine .g rfl rfl <| .mv rfl rfl <| .gs rfl rfl rfl <| .gs rfl rfl rfl <| .gs rfl rfl rfl <| .gs rfl rfl rfl <| .gs rfl rfl rfl <| .gs rfl rfl rfl <| .g rfl rfl <| .pickT rfl rfl rfl <| .pickT rfl rfl rfl <| .nil (by kernel_rfl) <| .condT rfl <| .seq <| .reg <| .mv rfl rfl <| .nil <| .ret rfl hQ (.be (by first | (simp [over, *] at *; done) | (simp [over, *] at *; omega))) LeBs.refl
          · refine .g rfl rfl <| .mv rfl rfl <| .g rfl rfl <| .mv rfl rfl <| .g rfl rfl <| .mv rfl rfl <| .g rfl rfl <| .ia rfl rfl rfl (by assumption) <| .g rfl rfl <| .faF rfl rfl <| .g rfl rfl <| .ldF rfl rfl rfl <| .g rfl rfl <| .eql rfl rfl rfl (fun h5 => ?_) (fun h5 => ?_)
            · refine .g rfl rfl <| .pickF rfl rfl rfl <| .pickT rfl rfl rfl <| .nil (by kernel_rfl) <| .condT rfl <| .seq <| .reg <| .mv rfl rfl <| .nil <| .ret rfl hQ (.be (by first | (simp [over, *] at *; done) | (simp [over, *] at *; omega))) LeBs.refl
            · refine .g rfl rfl <| .pickF rfl rfl rfl <| .pickT rfl rfl rfl <| .nil (by kernel_rfl) <| .condF rfl <| .skip <| .inBlock <| .reg <| .mv rfl rfl <| .add rfl rfl rfl (by omega) <| .mv rfl rfl <| .nil <| hT0 <| ?_
              exact RA.wq [] (ih (pre ++ [a])  _ (by simp [hc])  (by simpa [over, *] using hQ)) nT0
        · refine .pickT rfl rfl rfl <| .mv rfl rfl <| .gs rfl rfl rfl <| .gs rfl rfl rfl <| .gs rfl rfl rfl <| .gs rfl rfl rfl <| .gs rfl rfl rfl <| .gs rfl rfl rfl <| .gs rfl rfl rfl <| .gu rfl rfl <| .gu rfl rfl <| .gu rfl rfl <| .gu rfl rfl <| .gu rfl rfl <| .gu rfl rfl <| .gs rfl rfl rfl <| .pickF rfl rfl rfl <| .nil (by kernel_rfl) <| .condF rfl <| .skip <| .inBlock <| .reg <| .mv rfl rfl <| .add rfl rfl rfl (by omega) <| .mv rfl rfl <| .nil <| hT0 <| ?_
          exact RA.wq [] (ih (pre ++ [a])  _ (by simp [hc])  (by simpa [over, *] using hQ)) nT0
      · refine .mv rfl rfl <| .gs rfl rfl rfl <| .gs rfl rfl rfl <| .gs rfl rfl rfl <| .gs rfl rfl rfl <| .gs rfl rfl rfl <| .gs rfl rfl rfl <| .gs rfl rfl rfl <| .gs rfl rfl rfl <| .gs rfl rfl rfl <| .gs rfl rfl rfl <| .gs rfl rfl rfl <| .pickF rfl rfl rfl <| .mv rfl rfl <| .gs rfl rfl rfl <| .gs rfl rfl rfl <| .gs rfl rfl rfl <| .gs rfl rfl rfl <| .gs rfl rfl rfl <| .gs rfl rfl rfl <| .gs rfl rfl rfl <| .gu rfl rfl <| .gu rfl rfl <| .gu rfl rfl <| .gu rfl rfl <| .gu rfl rfl <| .gu rfl rfl <| .gs rfl rfl rfl <| .pickF rfl rfl rfl <| .nil (by kernel_rfl) <| .condF rfl <| .skip <| .inBlock <| .reg <| .mv rfl rfl <| .add rfl rfl rfl (by omega) <| .mv rfl rfl <| .nil <| hT0 <| ?_
        exact RA.wq [] (ih (pre ++ [a])  _ (by simp [hc])  (by simpa [over, *] using hQ)) nT0
  exact RA.wp [] (L0 (ms.drop (i + 1)) (ms.take (i + 1))  _ (by simp)  hQ) nT0 (by exact .k rfl rfl <| .k rfl rfl <| .i rfl (by simp; omega) .nil)
theorem s_l1First (ms : List Ms) (k : Int) (h : ms.length ≤ 1000000) : RF Y 187 [.fro true 3 (ms.map Ms.c), i64 k] (i64 (firstK k ms 0)) [] := by
  refine RF.s2 rfl rfl rfl fun Q hQ => ?_
  refine .seq <| .reg <| .mv rfl rfl <| .nil <| .seq <| .seq <| .reg <| .mv rfl rfl <| .nil <| .block <| ?_
  refine RA.loopI fun T0 hT0 nT0 eT0 => ?_
  have L0 : ∀ (post pre : List Ms)  (Q : Qst), ms = pre ++ post → Q (i64 (firstK k post pre.length)) [] → RA Y a187 T0 [(0, .fro true 3 (ms.map Ms.c)), (1, i64 k), (5, i64 pre.length)] [] 0 Q := by
    intro post
    induction post with
    | nil =>
      intro pre  Q hc  hQ
      have hl : ms.length = pre.length := by simp [hc]
      rw [eT0]
      refine .seq <| .seq <| .reg <| .mv rfl rfl <| .mv rfl rfl <| .len rfl rfl rfl <| .lssF rfl rfl rfl (by omega) <| .nil <| .condF rfl <| .exit rfl <| .seq <| .reg <| .mv rfl rfl <| .nil <| .ret rfl hQ (.ie (by simp [firstK, *])) LeBs.refl
    | cons a post ih =>
      intro pre  Q hc  hQ
      have hl : ms.length = pre.length + post.length + 1 := by simp [hc]; omega
      have ha : ms[pre.length]? = some a := by simp [hc]
      rw [eT0]
      refine .seq <| .seq <| .reg <| .mv rfl rfl <| .mv rfl rfl <| .len rfl rfl rfl <| .lssT rfl rfl rfl (by omega) <| .nil <| .condT rfl <| .skip <| .seq <| .block <| .seq <| .reg <| .mv rfl rfl <| .mv rfl rfl <| .ia rfl rfl rfl (by assumption) <| .faF rfl rfl <| .ldF rfl rfl rfl <| .mv rfl rfl <| .eql rfl rfl rfl (fun h2 => ?_) (fun h2 => ?_)
      · refine .nil <| .condT rfl <| .seq <| .reg <| .mv rfl rfl <| .mv rfl rfl <| .nil <| .ret rfl hQ (.ie (by simp [firstK, *])) LeBs.refl
      · refine .nil <| .condF rfl <| .skip <| .inBlock <| .reg <| .mv rfl rfl <| .add rfl rfl rfl (by omega) <| .mv rfl rfl <| .nil <| hT0 <| ?_
        exact RA.wq [] (ih (pre ++ [a])  _ (by simp [hc])  (by simpa [firstK, *] using hQ)) nT0
  exact RA.wq [] (L0 ms []  _ rfl  hQ) nT0
theorem s_Shrink (ms : List Ms) (h : ms.length ≤ 1000000) : RF Y 179 [.fro true 3 (ms.map Ms.c)] (.own true 3 0 ((shrink ms).map Ms.c)) [] := by
  refine RF.s1 rfl rfl rfl fun Q hQ => ?_
  refine .seq <| .reg <| .mv rfl rfl <| .nil <| .seq <| .reg <| .row0 rfl rfl rfl <| .mv rfl rfl <| .nil <| .seq <| .seq <| .reg <| .mv rfl rfl <| .nil <| .block <| ?_
  refine RA.loopI fun T0 hT0 nT0 eT0 => ?_
  have L0 : ∀ (post pre : List Ms) (out : List Ms) (Q : Qst), ms = pre ++ post → (∀ x, x ∈ out → -1000000000 ≤ x.v ∧ x.v ≤ 1000000000) → out.length ≤ pre.length → Q (.own true 3 0 ((shGo out post).map Ms.c)) [] → RA Y a179 T0 [(0, .fro true 3 (ms.map Ms.c)), (3, .row 0), (4, i64 pre.length)] [(0, .row true 3 0 (out.map Ms.c))] 1 Q := by
    intro post
    induction post with
    | nil =>
      intro pre out Q hc hb ho hQ
      have hl : ms.length = pre.length := by simp [hc]
      rw [eT0]
      refine .seq <| .seq <| .reg <| .mv rfl rfl <| .mv rfl rfl <| .len rfl rfl rfl <| .lssF rfl rfl rfl (by omega) <| .nil <| .condF rfl <| .exit rfl <| .seq <| .reg <| .mv rfl rfl <| .mv rfl rfl <| .nil <| .ret rfl hQ (.rw (by first | exact fun _ => rfl | exact fun h => by cases h)) LeBs.refl
    | cons a post ih =>
      intro pre out Q hc hb ho hQ
      have hl : ms.length = pre.length + post.length + 1 := by simp [hc]; omega
      have ha : ms[pre.length]? = some a := by simp [hc]
      have hd : ms.drop (pre.length + 1) = post := by simp [hc]
      rw [eT0]
      refine .seq <| .seq <| .reg <| .mv rfl rfl <| .mv rfl rfl <| .len rfl rfl rfl <| .lssT rfl rfl rfl (by omega) <| .nil <| .condT rfl <| .skip <| .seq <| .block <| .seq <| .reg <| .mv rfl rfl <| .mv rfl rfl <| .ia rfl rfl rfl (by assumption) <| .aF rfl rfl rfl <| .new rfl <| .stA rfl rfl rfl rfl rfl rfl <| .nil <| .seq <| .seq <| .reg <| .aE rfl rfl rfl rfl <| .c rfl rfl rfl (s_MsgOk ..) .refl rfl rfl rfl (by decide) <| .bB (fun h2 => ?_) (fun h2 => ?_)
      · refine .notT rfl rfl <| .mv rfl rfl <| .g rfl rfl <| .fa rfl rfl <| .g rfl rfl <| .ldE rfl rfl rfl rfl <| .g rfl rfl <| .eql rfl rfl rfl (fun h3 => ?_) (fun h3 => ?_)
        · refine .pickF rfl rfl rfl <| .mv rfl rfl <| .gs rfl rfl rfl <| .gs rfl rfl rfl <| .gs rfl rfl rfl <| .pickT rfl rfl rfl <| .nil <| .condT rfl <| .exit rfl <| .reg <| .mv rfl rfl <| .add rfl rfl rfl (by omega) <| .mv rfl rfl <| .nil <| hT0 <| ?_
          exact RA.wq [_] (ih (pre ++ [a]) out _ (by simp [hc]) hb (by simp; omega) (by simpa [shGo, *] using hQ)) nT0
        · have hm := h2
          simp only [Ms.ok, decide_eq_true_eq] at hm
          have hb2 : ∀ x, x ∈ out ++ [a] → -1000000000 ≤ x.v ∧ x.v ≤ 1000000000 := by
            intro x hx
            rcases List.mem_append.1 hx with hx | hx
            · exact hb x hx
            · obtain rfl := List.mem_singleton.1 hx; exact ⟨hm.2.2.2.2.1, hm.2.2.2.2.2.1⟩
          refine .pickF rfl rfl rfl <| .mv rfl rfl <| .g rfl rfl <| .mv rfl rfl <| .g rfl rfl <| .mv rfl rfl <| .g rfl rfl <| .c rfl rfl rfl (s_l1Over ms pre.length a ha h) .refl rfl rfl rfl (by decide) <| .bB (fun h4 => ?_) (fun h4 => ?_)
          · rw [hd] at h4
            refine .pickF rfl rfl rfl <| .nil <| .condT rfl <| .exit rfl <| .reg <| .mv rfl rfl <| .add rfl rfl rfl (by omega) <| .mv rfl rfl <| .nil <| hT0 <| ?_
            exact RA.wq [_] (ih (pre ++ [a]) out _ (by simp [hc]) hb (by simp; omega) (by simpa [shGo, *] using hQ)) nT0
          · rw [hd] at h4
            have hf0 := firstK_at a.k out 0
            refine .pickF rfl rfl rfl <| .nil <| .condF rfl <| .skip <| .seq <| .reg <| .mv rfl rfl <| .fa rfl rfl <| .ldE rfl rfl rfl rfl <| .c rfl rfl rfl (s_l1First out a.k (by omega)) .refl rfl rfl rfl (by decide) <| .mv rfl rfl <| .nil <| .seq <| .seq <| .reg <| .mv rfl rfl <| .geq rfl rfl rfl (fun h5 => ?_) (fun h5 => ?_)
            · obtain ⟨j, x, hf, hx, hx3⟩ := hf0.resolve_left (by omega)
              rw [Nat.zero_add] at hf
              have hj := (List.getElem?_eq_some_iff.1 hx).1
              have hxc : (out.map Ms.c)[(firstK a.k out 0).toNat]? = some (Ms.c x) := by simp [hf, hx]
              have hxb := hb x (List.mem_of_getElem? hx)
              have hxe : out[j] = x := by simpa [List.getElem?_eq_getElem hj] using hx
              refine .mv rfl rfl <| .g rfl rfl <| .mv rfl rfl <| .g rfl rfl <| .mv rfl rfl <| .g rfl rfl <| .iaRI rfl rfl rfl rfl (by omega) (by first | assumption | (simp; omega)) <| .g rfl rfl <| .fa rfl rfl <| .g rfl rfl <| .ldR rfl rfl rfl (by assumption) rfl <| .g rfl rfl <| .eql rfl rfl rfl (fun h6 => ?_) (fun h6 => ?_)
              · refine .pickT rfl rfl rfl <| .mv rfl rfl <| .g rfl rfl <| .fa rfl rfl <| .g rfl rfl <| .ldE rfl rfl rfl rfl <| .g rfl rfl <| .eql rfl rfl rfl (fun h7 => ?_) (fun h7 => ?_)
                · have hb3 : ∀ y, y ∈ out.set j ⟨1, a.k, clamp (x.v + a.v)⟩ → -1000000000 ≤ y.v ∧ y.v ≤ 1000000000 := by
                    intro y hy
                    rcases List.mem_or_eq_of_mem_set hy with hy | rfl
                    · exact hb y hy
                    · simp only [clamp]; omega
                  refine .pickT rfl rfl rfl <| .nil <| .condT rfl <| .seq <| .regD <| .mv rfl rfl <| .mv rfl rfl <| .mv rfl rfl <| .mv rfl rfl <| .iaRI rfl rfl rfl rfl (by omega) (by first | assumption | (simp; omega)) <| .fa rfl rfl <| .ldR rfl rfl rfl (by assumption) rfl <| .fa rfl rfl <| .ldE rfl rfl rfl rfl <| .add rfl rfl rfl (by omega) <| .c rfl rfl rfl (s_l1Clamp ..) .refl rfl rfl rfl (by decide) <| .iaRI rfl rfl rfl rfl (by omega) (by first | assumption | (simp; omega)) <| .fa rfl rfl <| .stR rfl rfl rfl rfl rfl rfl rfl (by assumption) (of_decide_eq_true rfl) rfl <| .nil (by kernel_rfl) <| .exit rfl <| .reg <| .mv rfl rfl <| .add rfl rfl rfl (by omega) <| .mv rfl rfl <| .nil <| hT0 <| ?_
                  exact RA.wr [_] (ih (pre ++ [a]) (out.set j ⟨1, a.k, clamp (x.v + a.v)⟩) _ (by simp [hc]) hb3 (by simp; omega) (by simpa [shGo, hf, hxe, *] using hQ)) nT0 (hm := by exact .x rfl rfl (by simp [lay, Ms.c, hx3, hf, show x.op = 1 from h6]) (fun _ => rfl) .nil)
                · refine .pickT rfl rfl rfl <| .nil <| .condF rfl <| .skip <| .reg <| .mv rfl rfl <| .aE rfl rfl rfl rfl <| .row1P rfl rfl rfl rfl rfl rfl rfl rfl <| .ap rfl rfl rfl rfl rfl (by simp; omega) (by decide) <| .mv rfl rfl <| .nil <| .inBlock <| .reg <| .mv rfl rfl <| .add rfl rfl rfl (by omega) <| .mv rfl rfl <| .nil <| hT0 <| ?_
                  exact RA.wq [_] (ih (pre ++ [a]) (out ++ [a]) _ (by simp [hc]) hb2 (by simp; omega) (by simpa [shGo, *] using hQ)) nT0
              · refine .pickT rfl rfl rfl <| .mv rfl rfl <| .gs rfl rfl rfl <| .gs rfl rfl rfl <| .gs rfl rfl rfl <| .pickF rfl rfl rfl <| .nil <| .condF rfl <| .skip <| .reg <| .mv rfl rfl <| .aE rfl rfl rfl rfl <| .row1P rfl rfl rfl rfl rfl rfl rfl rfl <| .ap rfl rfl rfl rfl rfl (by simp; omega) (by decide) <| .mv rfl rfl <| .nil <| .inBlock <| .reg <| .mv rfl rfl <| .add rfl rfl rfl (by omega) <| .mv rfl rfl <| .nil <| hT0 <| ?_
                exact RA.wq [_] (ih (pre ++ [a]) (out ++ [a]) _ (by simp [hc]) hb2 (by simp; omega) (by simpa [shGo, *] using hQ)) nT0
            · refine .mv rfl rfl <| .gs rfl rfl rfl <| .gs rfl rfl rfl <| .gs rfl rfl rfl <| .gs rfl rfl rfl <| .gs rfl rfl rfl <| .gs rfl rfl rfl <| .pickF rfl rfl rfl <| .mv rfl rfl <| .gs rfl rfl rfl <| .gs rfl rfl rfl <| .gs rfl rfl rfl <| .pickF rfl rfl rfl <| .nil <| .condF rfl <| .skip <| .reg <| .mv rfl rfl <| .aE rfl rfl rfl rfl <| .row1P rfl rfl rfl rfl rfl rfl rfl rfl <| .ap rfl rfl rfl rfl rfl (by simp; omega) (by decide) <| .mv rfl rfl <| .nil <| .inBlock <| .reg <| .mv rfl rfl <| .add rfl rfl rfl (by omega) <| .mv rfl rfl <| .nil <| hT0 <| ?_
              exact RA.wq [_] (ih (pre ++ [a]) (out ++ [a]) _ (by simp [hc]) hb2 (by simp; omega) (by simpa [shGo, *] using hQ)) nT0
      · refine .notF rfl rfl <| .mv rfl rfl <| .gs rfl rfl rfl <| .gs rfl rfl rfl <| .gs rfl rfl rfl <| .pickT rfl rfl rfl <| .mv rfl rfl <| .gs rfl rfl rfl <| .gs rfl rfl rfl <| .gs rfl rfl rfl <| .pickT rfl rfl rfl <| .nil <| .condT rfl <| .exit rfl <| .reg <| .mv rfl rfl <| .add rfl rfl rfl (by omega) <| .mv rfl rfl <| .nil <| hT0 <| ?_
        exact RA.wq [_] (ih (pre ++ [a]) out _ (by simp [hc]) hb (by simp; omega) (by simpa [shGo, *] using hQ)) nT0
  exact RA.wq [_] (L0 ms [] [] _ rfl (by simp) (by simp) hQ) nT0
end Go.Proofs.Ytjjocahgbmibeaa
