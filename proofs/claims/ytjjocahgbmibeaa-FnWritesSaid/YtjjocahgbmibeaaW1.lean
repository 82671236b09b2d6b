/- Walks: maps and messages of the reference. -/
import Derived.Test.YtjjocahgbmibeaaDat
namespace Go.Proofs.Ytjjocahgbmibeaa
open Go.Eng
set_option maxRecDepth 4000
set_option linter.unusedSimpArgs false
set_option linter.unusedVariables false
theorem s_l1In (x lo hi : Int) : RF Y 85 [i64 x, i64 lo, i64 hi] (.b (decide (lo ≤ x ∧ x ≤ hi))) [] := by
  refine RF.s3 rfl rfl rfl fun Q hQ => ?_
  refine .seq <| .reg <| .mv rfl rfl <| .nil <| .seq <| .reg <| .mv rfl rfl <| .mv rfl rfl <| .geq rfl rfl rfl (fun h1 => ?_) (fun h1 => ?_)
  · refine .mv rfl rfl <| .g rfl rfl <| .mv rfl rfl <| .g rfl rfl <| .mv rfl rfl <| .g rfl rfl <| .leq rfl rfl rfl (fun h2 => ?_) (fun h2 => ?_)
    · refine .pickT rfl rfl rfl <| .mv rfl rfl <| .nil <| .ret rfl hQ (.be (by first | (simp [] at *; done) | (simp [] at *; omega))) LeBs.refl
    · refine .pickT rfl rfl rfl <| .mv rfl rfl <| .nil <| .ret rfl hQ (.be (by first | (simp [] at *; done) | (simp [] at *; omega))) LeBs.refl
  · refine .mv rfl rfl <| .gs rfl rfl rfl <| .gs rfl rfl rfl <| .gs rfl rfl rfl <| .pickF rfl rfl rfl <| .mv rfl rfl <| .nil <| .ret rfl hQ (.be (by first | (simp [] at *; done) | (simp [] at *; omega))) LeBs.refl
theorem s_l1Min (a b : Int) : RF Y 174 [i64 a, i64 b] (i64 (min a b)) [] := by
  refine RF.s2 rfl rfl rfl fun Q hQ => ?_
  refine .seq <| .reg <| .mv rfl rfl <| .nil <| .seq <| .seq <| .reg <| .mv rfl rfl <| .mv rfl rfl <| .lss rfl rfl rfl (fun h1 => ?_) (fun h1 => ?_)
  · refine .nil <| .condT rfl <| .seq <| .reg <| .mv rfl rfl <| .mv rfl rfl <| .nil <| .ret rfl hQ (.ie (by omega)) LeBs.refl
  · refine .nil <| .condF rfl <| .skip <| .seq <| .reg <| .mv rfl rfl <| .mv rfl rfl <| .nil <| .ret rfl hQ (.ie (by omega)) LeBs.refl
theorem s_l1Max (a b : Int) : RF Y 165 [i64 a, i64 b] (i64 (max a b)) [] := by
  refine RF.s2 rfl rfl rfl fun Q hQ => ?_
  refine .seq <| .reg <| .mv rfl rfl <| .nil <| .seq <| .seq <| .reg <| .mv rfl rfl <| .mv rfl rfl <| .gtr rfl rfl rfl (fun h1 => ?_) (fun h1 => ?_)
  · refine .nil <| .condT rfl <| .seq <| .reg <| .mv rfl rfl <| .mv rfl rfl <| .nil <| .ret rfl hQ (.ie (by omega)) LeBs.refl
  · refine .nil <| .condF rfl <| .skip <| .seq <| .reg <| .mv rfl rfl <| .mv rfl rfl <| .nil <| .ret rfl hQ (.ie (by omega)) LeBs.refl
def okV (v : Int) : Bool := decide (-1000000000 ≤ v ∧ v ≤ 1000000000)
theorem s_l1Value (v : Int) : RF Y 153 [i64 v] (.b (okV v)) [] := by
  refine RF.s1 rfl rfl rfl fun Q hQ => ?_
  refine .seq <| .reg <| .mv rfl rfl <| .nil <| .seq <| .reg <| .mv rfl rfl <| .c rfl rfl rfl (s_l1In ..) .refl rfl rfl rfl (by decide) <| .mv rfl rfl <| .nil <| .ret rfl hQ .r LeBs.refl
def clamp (x : Int) : Int := max (min x 1000000000) (-1000000000)
theorem s_l1Clamp (v : Int) : RF Y 161 [i64 v] (i64 (clamp v)) [] := by
  refine RF.s1 rfl rfl rfl fun Q hQ => ?_
  refine .seq <| .reg <| .mv rfl rfl <| .nil <| .seq <| .reg <| .mv rfl rfl <| .c rfl rfl rfl (s_l1Min ..) .refl rfl rfl rfl (by decide) <| .c rfl rfl rfl (s_l1Max ..) .refl rfl rfl rfl (by decide) <| .mv rfl rfl <| .nil <| .ret rfl hQ .r LeBs.refl
def Ms.ok (m : Ms) : Bool := decide (1 ≤ m.op ∧ m.op ≤ 4 ∧ 0 ≤ m.k ∧ m.k ≤ 999 ∧ -1000000000 ≤ m.v ∧ m.v ≤ 1000000000 ∧ (m.v = 0 ∨ m.op = 1 ∨ m.op = 3))
theorem s_MsgOk (m : Ms) : RF Y 123 [.agg (Ms.c m)] (.b m.ok) [] := by
  refine RF.s1 rfl rfl rfl fun Q hQ => ?_
  refine .seq <| .reg <| .box rfl rfl rfl <| .mv rfl rfl <| .nil <| .seq <| .seq <| .reg <| .fa rfl rfl <| .ldE rfl rfl rfl rfl <| .c rfl rfl rfl (s_l1In ..) .refl rfl rfl rfl (by decide) <| .bB (fun h1 => ?_) (fun h1 => ?_)
  · refine .notT rfl rfl <| .mv rfl rfl <| .g rfl rfl <| .fa rfl rfl <| .g rfl rfl <| .ldE rfl rfl rfl rfl <| .g rfl rfl <| .c rfl rfl rfl (s_l1In ..) .refl rfl rfl rfl (by decide) <| .bB (fun h2 => ?_) (fun h2 => ?_)
    · refine .g rfl rfl <| .notT rfl rfl <| .pickF rfl rfl rfl <| .mv rfl rfl <| .g rfl rfl <| .fa rfl rfl <| .g rfl rfl <| .ldE rfl rfl rfl rfl <| .g rfl rfl <| .c rfl rfl rfl (s_l1Value ..) .refl rfl rfl rfl (by decide) <| .bB (fun h3 => ?_) (fun h3 => ?_)
      · refine .g rfl rfl <| .notT rfl rfl <| .pickF rfl rfl rfl <| .nil <| .condF rfl <| .skip <| .seq <| .reg <| .fa rfl rfl <| .ldE rfl rfl rfl rfl <| .eql rfl rfl rfl (fun h4 => ?_) (fun h4 => ?_)
        · refine .mv rfl rfl <| .gs rfl rfl rfl <| .gs rfl rfl rfl <| .gs rfl rfl rfl <| .pickT rfl rfl rfl <| .mv rfl rfl <| .gs rfl rfl rfl <| .gs rfl rfl rfl <| .gs rfl rfl rfl <| .pickT rfl rfl rfl <| .mv rfl rfl <| .nil <| .ret rfl hQ (.be (by first | (simp [Ms.ok, okV] at *; done) | (simp [Ms.ok, okV] at *; omega))) LeBs.refl
        · refine .mv rfl rfl <| .g rfl rfl <| .fa rfl rfl <| .g rfl rfl <| .ldE rfl rfl rfl rfl <| .g rfl rfl <| .eql rfl rfl rfl (fun h5 => ?_) (fun h5 => ?_)
          · refine .pickF rfl rfl rfl <| .mv rfl rfl <| .gs rfl rfl rfl <| .gs rfl rfl rfl <| .gs rfl rfl rfl <| .pickT rfl rfl rfl <| .mv rfl rfl <| .nil <| .ret rfl hQ (.be (by first | (simp [Ms.ok, okV] at *; done) | (simp [Ms.ok, okV] at *; omega))) LeBs.refl
          · refine .pickF rfl rfl rfl <| .mv rfl rfl <| .g rfl rfl <| .fa rfl rfl <| .g rfl rfl <| .ldE rfl rfl rfl rfl <| .g rfl rfl <| .eql rfl rfl rfl (fun h6 => ?_) (fun h6 => ?_)
            · refine .pickF rfl rfl rfl <| .mv rfl rfl <| .nil <| .ret rfl hQ (.be (by first | (simp [Ms.ok, okV] at *; done) | (simp [Ms.ok, okV] at *; omega))) LeBs.refl
            · refine .pickF rfl rfl rfl <| .mv rfl rfl <| .nil <| .ret rfl hQ (.be (by first | (simp [Ms.ok, okV] at *; done) | (simp [Ms.ok, okV] at *; omega))) LeBs.refl
      · refine .g rfl rfl <| .notF rfl rfl <| .pickF rfl rfl rfl <| .nil <| .condT rfl <| .seq <| .reg <| .mv rfl rfl <| .nil <| .ret rfl hQ (.be (by first | (simp [Ms.ok, okV] at *; done) | (simp [Ms.ok, okV] at *; omega))) LeBs.refl
    · refine .g rfl rfl <| .notF rfl rfl <| .pickF rfl rfl rfl <| .mv rfl rfl <| .gs rfl rfl rfl <| .gs rfl rfl rfl <| .gs rfl rfl rfl <| .gs rfl rfl rfl <| .pickT rfl rfl rfl <| .nil <| .condT rfl <| .seq <| .reg <| .mv rfl rfl <| .nil <| .ret rfl hQ (.be (by first | (simp [Ms.ok, okV] at *; done) | (simp [Ms.ok, okV] at *; omega))) LeBs.refl
  · refine .notF rfl rfl <| .mv rfl rfl <| .gs rfl rfl rfl <| .gs rfl rfl rfl <| .gs rfl rfl rfl <| .gs rfl rfl rfl <| .pickT rfl rfl rfl <| .mv rfl rfl <| .gs rfl rfl rfl <| .gs rfl rfl rfl <| .gs rfl rfl rfl <| .gs rfl rfl rfl <| .pickT rfl rfl rfl <| .nil <| .condT rfl <| .seq <| .reg <| .mv rfl rfl <| .nil <| .ret rfl hQ (.be (by first | (simp [Ms.ok, okV] at *; done) | (simp [Ms.ok, okV] at *; omega))) LeBs.refl
def mOk : Int → List Pr → Bool
  | _, [] => true
  | lo, p :: ps => decide (lo < p.k ∧ 0 ≤ p.k ∧ p.k ≤ 999 ∧ -1000000000 ≤ p.v ∧ p.v ≤ 1000000000) && mOk p.k ps
def mapOk (ps : List Pr) : Bool := mOk (-1) ps
def mapGet (k : Int) : List Pr → Int × Bool
  | [] => (0, false)
  | p :: ps => if p.k = k then (p.v, true) else mapGet k ps
def without (k : Int) (ps : List Pr) : List Pr := ps.filter fun p => !decide (p.k = k)
def putGo (k v : Int) : Bool → List Pr → List Pr
  | put, [] => if put then [] else [⟨k, v⟩]
  | put, p :: ps => if put = false ∧ p.k ≥ k then ⟨k, v⟩ :: ((if p.k = k then [] else [p]) ++ putGo k v true ps) else (if p.k = k then [] else [p]) ++ putGo k v put ps
def put (k v : Int) (ps : List Pr) : List Pr := putGo k v false ps
def mapDo (ps : List Pr) (m : Ms) : List Pr :=
  if mapOk ps = true ∧ m.ok = true then if m.op = 1 then put m.k m.v ps else if m.op = 2 then without m.k ps else if m.op = 3 then put m.k (clamp ((mapGet m.k ps).1 + m.v)) ps else ps else ps
def mapAll (ps : List Pr) (ms : List Ms) : List Pr := ms.foldl mapDo ps
theorem s_MapGet (ps : List Pr) (k : Int) (h : ps.length ≤ 1000000) : RF Y 72 [.fro true 2 (ps.map Pr.c), i64 k] (.tup [i64 (mapGet k ps).1, .b (mapGet k ps).2]) [] := by
  refine RF.s2 rfl rfl rfl fun Q hQ => ?_
  refine .seq <| .reg <| .mv rfl rfl <| .mv rfl rfl <| .nil <| .seq <| .seq <| .reg <| .mv rfl rfl <| .nil <| .block <| ?_
  refine RA.loopI fun T0 hT0 nT0 eT0 => ?_
  have L0 : ∀ (post pre : List Pr)  (Q : Qst), ps = pre ++ post → Q (.tup [i64 (mapGet k post).1, .b (mapGet k post).2]) [] → RA Y a72 T0 [(0, .fro true 2 (ps.map Pr.c)), (1, i64 k), (6, i64 pre.length)] [] 0 Q := by
    intro post
    induction post with
    | nil =>
      intro pre  Q hc  hQ
      have hl : ps.length = pre.length := by simp [hc]
      rw [eT0]
      refine .seq <| .seq <| .reg <| .mv rfl rfl <| .mv rfl rfl <| .len rfl rfl rfl <| .lssF rfl rfl rfl (by omega) <| .nil <| .condF rfl <| .exit rfl <| .seq <| .reg <| .mv rfl rfl <| .mv rfl rfl <| .nil <| .ret rfl hQ .r LeBs.refl
    | cons a post ih =>
      intro pre  Q hc  hQ
      have hl : ps.length = pre.length + post.length + 1 := by simp [hc]; omega
      have ha : ps[pre.length]? = some a := by simp [hc]
      rw [eT0]
      refine .seq <| .seq <| .reg <| .mv rfl rfl <| .mv rfl rfl <| .len rfl rfl rfl <| .lssT rfl rfl rfl (by omega) <| .nil <| .condT rfl <| .skip <| .seq <| .block <| .seq <| .reg <| .mv rfl rfl <| .mv rfl rfl <| .ia rfl rfl rfl (by assumption) <| .faF rfl rfl <| .ldF rfl rfl rfl <| .mv rfl rfl <| .eql rfl rfl rfl (fun h2 => ?_) (fun h2 => ?_)
      · simp [mapGet, h2] at hQ
        refine .nil <| .condT rfl <| .seq <| .reg <| .mv rfl rfl <| .mv rfl rfl <| .ia rfl rfl rfl (by assumption) <| .faF rfl rfl <| .ldF rfl rfl rfl <| .mv rfl rfl <| .mv rfl rfl <| .nil <| .ret rfl hQ .r LeBs.refl
      · refine .nil <| .condF rfl <| .skip <| .inBlock <| .reg <| .mv rfl rfl <| .add rfl rfl rfl (by omega) <| .mv rfl rfl <| .nil <| hT0 <| ?_
        exact RA.wq [] (ih (pre ++ [a])  _ (by simp [hc])  (by simpa [mapGet, *] using hQ)) nT0
  exact RA.wq [] (L0 ps []  _ rfl  hQ) nT0
theorem s_MapOk (ps : List Pr) (h : ps.length ≤ 1000000) : RF Y 152 [.fro true 2 (ps.map Pr.c)] (.b (mapOk ps)) [] := by
  refine RF.s1 rfl rfl rfl fun Q hQ => ?_
  refine .seq <| .reg <| .mv rfl rfl <| .nil <| .seq <| .seq <| .reg <| .mv rfl rfl <| .nil <| .block <| ?_
  refine RA.loopI fun T0 hT0 nT0 eT0 => ?_
  have L0 : ∀ (post pre : List Pr) (lo : Int) (Q : Qst), ps = pre ++ post → (∀ p, pre.getLast? = some p → lo = p.k) → (pre = [] → lo = -1) → Q (.b (mOk lo post)) [] → RA Y a152 T0 [(0, .fro true 2 (ps.map Pr.c)), (3, i64 pre.length)] [] 0 Q := by
    intro post
    induction post with
    | nil =>
      intro pre lo Q hc hlo hl0 hQ
      have hl : ps.length = pre.length := by simp [hc]
      rw [eT0]
      refine .seq <| .seq <| .reg <| .mv rfl rfl <| .mv rfl rfl <| .len rfl rfl rfl <| .lssF rfl rfl rfl (by omega) <| .nil <| .condF rfl <| .exit rfl <| .seq <| .reg <| .mv rfl rfl <| .nil <| .ret rfl hQ (.be (by first | (simp [mOk] at *; done) | (simp [mOk] at *; omega))) LeBs.refl
    | cons a post ih =>
      intro pre lo Q hc hlo hl0 hQ
      have hl : ps.length = pre.length + post.length + 1 := by simp [hc]; omega
      have ha : ps[pre.length]? = some a := by simp [hc]
      rw [eT0]
      refine .seq <| .seq <| .reg <| .mv rfl rfl <| .mv rfl rfl <| .len rfl rfl rfl <| .lssT rfl rfl rfl (by omega) <| .nil <| .condT rfl <| .skip <| .seq <| .block <| .seq <| .regD <| .mv rfl rfl <| .mv rfl rfl <| .ia rfl rfl rfl (by assumption) <| .faF rfl rfl <| .ldF rfl rfl rfl <| .c rfl rfl rfl (s_l1In ..) .refl rfl rfl rfl (by decide) <| .bB (fun h2 => ?_) (fun h2 => ?_)
      · refine .notT rfl rfl <| .mv rfl rfl <| .g rfl rfl <| .mv rfl rfl <| .g rfl rfl <| .mv rfl rfl <| .g rfl rfl <| .ia rfl rfl rfl (by assumption) <| .g rfl rfl <| .faF rfl rfl <| .g rfl rfl <| .ldF rfl rfl rfl <| .g rfl rfl <| .c rfl rfl rfl (s_l1Value ..) .refl rfl rfl rfl (by decide) <| .bB (fun h3 => ?_) (fun h3 => ?_)
        · refine .g rfl rfl <| .notT rfl rfl <| .pickF rfl rfl rfl <| .mv rfl rfl <| .g rfl rfl <| .mv rfl rfl <| .g rfl rfl <| .gtr rfl rfl rfl (fun h4 => ?_) (fun h4 => ?_)
          · obtain ⟨p, hp, hp1⟩ := last_at hc h4
            have hlo' := hlo p hp
            refine .g rfl rfl <| .mv rfl rfl <| .g rfl rfl <| .mv rfl rfl <| .g rfl rfl <| .mv rfl rfl <| .g rfl rfl <| .sub rfl rfl rfl (by omega) <| .g rfl rfl <| .iaI rfl rfl rfl (by omega) (by assumption) <| .g rfl rfl <| .faF rfl rfl <| .g rfl rfl <| .ldF rfl rfl rfl <| .g rfl rfl <| .mv rfl rfl <| .g rfl rfl <| .mv rfl rfl <| .g rfl rfl <| .ia rfl rfl rfl (by assumption) <| .g rfl rfl <| .faF rfl rfl <| .g rfl rfl <| .ldF rfl rfl rfl <| .g rfl rfl <| .geq rfl rfl rfl (fun h5 => ?_) (fun h5 => ?_)
            · refine .g rfl rfl <| .pickT rfl rfl rfl <| .pickF rfl rfl rfl <| .nil (by kernel_rfl) <| .condT rfl <| .seq <| .reg <| .mv rfl rfl <| .nil <| .ret rfl hQ (.be (by first | (simp [mOk, okV] at *; done) | (simp [mOk, okV] at *; omega))) LeBs.refl
            · refine .g rfl rfl <| .pickT rfl rfl rfl <| .pickF rfl rfl rfl <| .nil (by kernel_rfl) <| .condF rfl <| .skip <| .inBlock <| .reg <| .mv rfl rfl <| .add rfl rfl rfl (by omega) <| .mv rfl rfl <| .nil <| hT0 <| ?_
              exact RA.wq [] (ih (pre ++ [a]) a.k _ (by simp [hc]) (by simp) (by simp) (by simp [mOk] at hQ h2 h3; simp [okV] at h3; simpa [show lo < a.k by omega, h2.1, h2.2, h3.1, h3.2] using hQ)) nT0
          · refine .g rfl rfl <| .mv rfl rfl <| .gs rfl rfl rfl <| .gs rfl rfl rfl <| .gs rfl rfl rfl <| .gs rfl rfl rfl <| .gs rfl rfl rfl <| .gs rfl rfl rfl <| .gs rfl rfl rfl <| .gs rfl rfl rfl <| .gs rfl rfl rfl <| .gs rfl rfl rfl <| .gs rfl rfl rfl <| .gs rfl rfl rfl <| .g rfl rfl <| .pickF rfl rfl rfl <| .pickF rfl rfl rfl <| .nil (by kernel_rfl) <| .condF rfl <| .skip <| .inBlock <| .reg <| .mv rfl rfl <| .add rfl rfl rfl (by omega) <| .mv rfl rfl <| .nil <| hT0 <| ?_
            exact RA.wq [] (ih (pre ++ [a]) a.k _ (by simp [hc]) (by simp) (by simp) (by simp [mOk] at hQ h2 h3; simp [okV] at h3; have := hl0 (List.eq_nil_of_length_eq_zero (by omega)); simpa [show lo < a.k by omega, h2.1, h2.2, h3.1, h3.2] using hQ)) nT0
        · refine .g rfl rfl <| .notF rfl rfl <| .pickF rfl rfl rfl <| .mv rfl rfl <| .gs rfl rfl rfl <| .gs rfl rfl rfl <| .gs rfl rfl rfl <| .gu rfl rfl <| .gu rfl rfl <| .gu rfl rfl <| .gu rfl rfl <| .gu rfl rfl <| .gu rfl rfl <| .gu rfl rfl <| .gu rfl rfl <| .gu rfl rfl <| .gu rfl rfl <| .gu rfl rfl <| .gu rfl rfl <| .gs rfl rfl rfl <| .pickT rfl rfl rfl <| .nil (by kernel_rfl) <| .condT rfl <| .seq <| .reg <| .mv rfl rfl <| .nil <| .ret rfl hQ (.be (by first | (simp [mOk, okV] at *; done) | (simp [mOk, okV] at *; omega))) LeBs.refl
      · refine .notF rfl rfl <| .mv rfl rfl <| .gs rfl rfl rfl <| .gs rfl rfl rfl <| .gs rfl rfl rfl <| .gs rfl rfl rfl <| .gs rfl rfl rfl <| .gs rfl rfl rfl <| .gs rfl rfl rfl <| .pickT rfl rfl rfl <| .mv rfl rfl <| .gs rfl rfl rfl <| .gs rfl rfl rfl <| .gs rfl rfl rfl <| .gu rfl rfl <| .gu rfl rfl <| .gu rfl rfl <| .gu rfl rfl <| .gu rfl rfl <| .gu rfl rfl <| .gu rfl rfl <| .gu rfl rfl <| .gu rfl rfl <| .gu rfl rfl <| .gu rfl rfl <| .gu rfl rfl <| .gs rfl rfl rfl <| .pickT rfl rfl rfl <| .nil (by kernel_rfl) <| .condT rfl <| .seq <| .reg <| .mv rfl rfl <| .nil <| .ret rfl hQ (.be (by first | (simp [mOk, okV] at *; done) | (simp [mOk, okV] at *; omega))) LeBs.refl
  exact RA.wq [] (L0 ps [] (-1) _ rfl (by simp) (by simp) hQ) nT0
theorem s_l1Without (ps : List Pr) (k : Int) (h : ps.length ≤ 1000000) : RF Y 160 [.fro true 2 (ps.map Pr.c), i64 k] (.own true 2 0 ((without k ps).map Pr.c)) [] := by
  refine RF.s2 rfl rfl rfl fun Q hQ => ?_
  refine .seq <| .reg <| .mv rfl rfl <| .nil <| .seq <| .reg <| .row0 rfl rfl rfl <| .mv rfl rfl <| .nil <| .seq <| .seq <| .reg <| .mv rfl rfl <| .nil <| .block <| ?_
  refine RA.loopI fun T0 hT0 nT0 eT0 => ?_
  have L0 : ∀ (post pre : List Pr) (out : List Pr) (Q : Qst), ps = pre ++ post → out.length ≤ pre.length → Q (.own true 2 0 ((out ++ without k post).map Pr.c)) [] → RA Y a160 T0 [(0, .fro true 2 (ps.map Pr.c)), (1, i64 k), (5, .row 0), (6, i64 pre.length)] [(0, .row true 2 0 (out.map Pr.c))] 1 Q := by
    intro post
    induction post with
    | nil =>
      intro pre out Q hc ho hQ
      have hl : ps.length = pre.length := by simp [hc]
      simp [without] at hQ
      rw [eT0]
      refine .seq <| .seq <| .reg <| .mv rfl rfl <| .mv rfl rfl <| .len rfl rfl rfl <| .lssF rfl rfl rfl (by omega) <| .nil <| .condF rfl <| .exit rfl <| .seq <| .reg <| .mv rfl rfl <| .mv rfl rfl <| .nil <| .ret rfl hQ (.rw (by first | exact fun _ => rfl | exact fun h => by cases h)) LeBs.refl
    | cons a post ih =>
      intro pre out Q hc ho hQ
      have hl : ps.length = pre.length + post.length + 1 := by simp [hc]; omega
      have ha : ps[pre.length]? = some a := by simp [hc]
      rw [eT0]
      refine .seq <| .seq <| .reg <| .mv rfl rfl <| .mv rfl rfl <| .len rfl rfl rfl <| .lssT rfl rfl rfl (by omega) <| .nil <| .condT rfl <| .skip <| .seq <| .block <| .seq <| .reg <| .mv rfl rfl <| .mv rfl rfl <| .ia rfl rfl rfl (by assumption) <| .faF rfl rfl <| .ldF rfl rfl rfl <| .mv rfl rfl <| .neq rfl rfl rfl (fun h2 => ?_) (fun h2 => ?_)
      · refine .nil <| .condT rfl <| .reg <| .mv rfl rfl <| .mv rfl rfl <| .mv rfl rfl <| .ia rfl rfl rfl (by assumption) <| .aF rfl rfl rfl <| .row1P rfl rfl rfl rfl rfl rfl rfl rfl <| .ap rfl rfl rfl rfl rfl (by simp; omega) (by decide) <| .mv rfl rfl <| .nil <| .inBlock <| .reg <| .mv rfl rfl <| .add rfl rfl rfl (by omega) <| .mv rfl rfl <| .nil <| hT0 <| ?_
        exact RA.wq [_] (ih (pre ++ [a]) (out ++ [a]) _ (by simp [hc]) (by simp; omega) (by simpa [without, h2] using hQ)) nT0
      · refine .nil <| .condF rfl <| .skip <| .inBlock <| .reg <| .mv rfl rfl <| .add rfl rfl rfl (by omega) <| .mv rfl rfl <| .nil <| hT0 <| ?_
        exact RA.wq [_] (ih (pre ++ [a]) out _ (by simp [hc]) (by simp; omega) (by simpa [without, Classical.not_not.1 h2] using hQ)) nT0
  exact RA.wq [_] (L0 ps [] [] _ rfl (by simp) hQ) nT0
theorem s_l1Put (ps : List Pr) (k v : Int) (h : ps.length ≤ 1000000) : RF Y 159 [.fro true 2 (ps.map Pr.c), i64 k, i64 v] (.own true 2 0 ((put k v ps).map Pr.c)) [] := by
  refine RF.s3 rfl rfl rfl fun Q hQ => ?_
  refine .seq <| .reg <| .mv rfl rfl <| .nil <| .seq <| .reg <| .row0 rfl rfl rfl <| .mv rfl rfl <| .nil <| .seq <| .reg <| .mv rfl rfl <| .nil <| .seq <| .seq <| .reg <| .mv rfl rfl <| .nil <| .block <| ?_
  refine RA.loopI fun T0 hT0 nT0 eT0 => ?_
  have L0 : ∀ (post pre : List Pr) (out : List Pr) (pt : Bool) (Q : Qst), ps = pre ++ post → out.length + (if pt then 0 else 1) ≤ pre.length + 1 → Q (.own true 2 0 ((out ++ putGo k v pt post).map Pr.c)) [] → RA Y a159 T0 [(0, .fro true 2 (ps.map Pr.c)), (1, i64 k), (2, i64 v), (7, .row 0), (8, .b pt), (9, i64 pre.length)] [(0, .row true 2 0 (out.map Pr.c))] 1 Q := by
    intro post
    induction post with
    | nil =>
      intro pre out pt Q hc ho hQ
      have hl : ps.length = pre.length := by simp [hc]
      rw [eT0]
      refine .seq <| .seq <| .reg <| .mv rfl rfl <| .mv rfl rfl <| .len rfl rfl rfl <| .lssF rfl rfl rfl (by omega) <| .nil <| .condF rfl <| .exit rfl <| .seq <| .seq <| .reg <| .mv rfl rfl <| .not rfl rfl <| .bB (fun h2 => ?_) (fun h2 => ?_)
      · obtain rfl : pt = false := by simpa using h2
        try simp only [putGo, Bool.false_eq_true, if_false, if_true, List.append_nil] at hQ
        refine .nil <| .condT rfl <| .reg <| .mv rfl rfl <| .mv rfl rfl <| .mv rfl rfl <| .build (cs := [_, _]) rfl rfl rfl <| .row1P rfl rfl rfl rfl rfl rfl rfl rfl <| .ap rfl rfl rfl rfl rfl (by simp; omega) (by decide) <| .mv rfl rfl <| .nil <| .seq <| .reg <| .mv rfl rfl <| .mv rfl rfl <| .nil <| .ret rfl hQ (.rw (by first | exact fun _ => rfl | exact fun h => by cases h)) LeBs.refl
      · obtain rfl : pt = true := by simpa using h2
        try simp only [putGo, Bool.false_eq_true, if_false, if_true, List.append_nil] at hQ
        refine .nil <| .condF rfl <| .skip <| .seq <| .reg <| .mv rfl rfl <| .mv rfl rfl <| .nil <| .ret rfl hQ (.rw (by first | exact fun _ => rfl | exact fun h => by cases h)) LeBs.refl
    | cons a post ih =>
      intro pre out pt Q hc ho hQ
      have hl : ps.length = pre.length + post.length + 1 := by simp [hc]; omega
      have ha : ps[pre.length]? = some a := by simp [hc]
      rw [eT0]
      refine .seq <| .seq <| .reg <| .mv rfl rfl <| .mv rfl rfl <| .len rfl rfl rfl <| .lssT rfl rfl rfl (by omega) <| .nil <| .condT rfl <| .skip <| .seq <| .block <| .seq <| .seq <| .reg <| .mv rfl rfl <| .not rfl rfl <| .bB (fun h2 => ?_) (fun h2 => ?_)
      · obtain rfl : pt = false := by simpa using h2
        try simp only [putGo, Bool.false_eq_true, if_false, if_true, List.append_nil] at hQ
        refine .mv rfl rfl <| .g rfl rfl <| .mv rfl rfl <| .g rfl rfl <| .mv rfl rfl <| .g rfl rfl <| .ia rfl rfl rfl (by assumption) <| .g rfl rfl <| .faF rfl rfl <| .g rfl rfl <| .ldF rfl rfl rfl <| .g rfl rfl <| .mv rfl rfl <| .g rfl rfl <| .geq rfl rfl rfl (fun h3 => ?_) (fun h3 => ?_)
        · refine .pickT rfl rfl rfl <| .nil <| .condT rfl <| .seq <| .reg <| .mv rfl rfl <| .mv rfl rfl <| .mv rfl rfl <| .build (cs := [_, _]) rfl rfl rfl <| .row1P rfl rfl rfl rfl rfl rfl rfl rfl <| .ap rfl rfl rfl rfl rfl (by simp; omega) (by decide) <| .mv rfl rfl <| .nil <| .reg <| .mv rfl rfl <| .nil <| .seq <| .reg <| .mv rfl rfl <| .mv rfl rfl <| .ia rfl rfl rfl (by assumption) <| .faF rfl rfl <| .ldF rfl rfl rfl <| .mv rfl rfl <| .neq rfl rfl rfl (fun h4 => ?_) (fun h4 => ?_)
          · refine .nil <| .condT rfl <| .reg <| .mv rfl rfl <| .mv rfl rfl <| .mv rfl rfl <| .ia rfl rfl rfl (by assumption) <| .aF rfl rfl rfl <| .row1P rfl rfl rfl rfl rfl rfl rfl rfl <| .ap rfl rfl rfl rfl rfl (by simp; omega) (by decide) <| .mv rfl rfl <| .nil <| .inBlock <| .reg <| .mv rfl rfl <| .add rfl rfl rfl (by omega) <| .mv rfl rfl <| .nil <| hT0 <| ?_
            exact RA.wq [_] (ih (pre ++ [a]) (out ++ [⟨k, v⟩] ++ [a]) true _ (by simp [hc]) (by simp at *; omega) (by simpa [putGo, *] using hQ)) nT0
          · refine .nil <| .condF rfl <| .skip <| .inBlock <| .reg <| .mv rfl rfl <| .add rfl rfl rfl (by omega) <| .mv rfl rfl <| .nil <| hT0 <| ?_
            exact RA.wq [_] (ih (pre ++ [a]) (out ++ [⟨k, v⟩]) true _ (by simp [hc]) (by simp at *; omega) (by simpa [h3, Classical.not_not.1 h4] using hQ)) nT0
        · refine .pickT rfl rfl rfl <| .nil <| .condF rfl <| .skip <| .seq <| .reg <| .mv rfl rfl <| .mv rfl rfl <| .ia rfl rfl rfl (by assumption) <| .faF rfl rfl <| .ldF rfl rfl rfl <| .mv rfl rfl <| .neq rfl rfl rfl (fun h5 => ?_) (fun h5 => ?_)
          · refine .nil <| .condT rfl <| .reg <| .mv rfl rfl <| .mv rfl rfl <| .mv rfl rfl <| .ia rfl rfl rfl (by assumption) <| .aF rfl rfl rfl <| .row1P rfl rfl rfl rfl rfl rfl rfl rfl <| .ap rfl rfl rfl rfl rfl (by simp; omega) (by decide) <| .mv rfl rfl <| .nil <| .inBlock <| .reg <| .mv rfl rfl <| .add rfl rfl rfl (by omega) <| .mv rfl rfl <| .nil <| hT0 <| ?_
            exact RA.wq [_] (ih (pre ++ [a]) (out ++ [a]) false _ (by simp [hc]) (by simp at *; omega) (by simpa [putGo, *] using hQ)) nT0
          · refine .nil <| .condF rfl <| .skip <| .inBlock <| .reg <| .mv rfl rfl <| .add rfl rfl rfl (by omega) <| .mv rfl rfl <| .nil <| hT0 <| ?_
            exact RA.wq [_] (ih (pre ++ [a]) out false _ (by simp [hc]) (by simp at *; omega) (absurd (Classical.not_not.1 h5) (by omega))) nT0
      · obtain rfl : pt = true := by simpa using h2
        try simp only [putGo, Bool.false_eq_true, if_false, if_true, List.append_nil] at hQ
        refine .mv rfl rfl <| .gs rfl rfl rfl <| .gs rfl rfl rfl <| .gs rfl rfl rfl <| .gs rfl rfl rfl <| .gs rfl rfl rfl <| .gs rfl rfl rfl <| .gs rfl rfl rfl <| .pickF rfl rfl rfl <| .nil <| .condF rfl <| .skip <| .seq <| .reg <| .mv rfl rfl <| .mv rfl rfl <| .ia rfl rfl rfl (by assumption) <| .faF rfl rfl <| .ldF rfl rfl rfl <| .mv rfl rfl <| .neq rfl rfl rfl (fun h6 => ?_) (fun h6 => ?_)
        · refine .nil <| .condT rfl <| .reg <| .mv rfl rfl <| .mv rfl rfl <| .mv rfl rfl <| .ia rfl rfl rfl (by assumption) <| .aF rfl rfl rfl <| .row1P rfl rfl rfl rfl rfl rfl rfl rfl <| .ap rfl rfl rfl rfl rfl (by simp; omega) (by decide) <| .mv rfl rfl <| .nil <| .inBlock <| .reg <| .mv rfl rfl <| .add rfl rfl rfl (by omega) <| .mv rfl rfl <| .nil <| hT0 <| ?_
          exact RA.wq [_] (ih (pre ++ [a]) (out ++ [a]) true _ (by simp [hc]) (by simp at *; omega) (by simpa [putGo, *] using hQ)) nT0
        · refine .nil <| .condF rfl <| .skip <| .inBlock <| .reg <| .mv rfl rfl <| .add rfl rfl rfl (by omega) <| .mv rfl rfl <| .nil <| hT0 <| ?_
          exact RA.wq [_] (ih (pre ++ [a]) out true _ (by simp [hc]) (by simp at *; omega) (by simpa [Classical.not_not.1 h6] using hQ)) nT0
  exact RA.wq [_] (L0 ps [] [] false _ rfl (by simp) hQ) nT0
end Go.Proofs.Ytjjocahgbmibeaa
