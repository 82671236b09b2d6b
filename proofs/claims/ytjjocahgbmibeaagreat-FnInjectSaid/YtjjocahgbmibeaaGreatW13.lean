/- Walks: the library's rows; messages that are shrunk (the program). -/
import Derived.Test.YtjjocahgbmibeaaGreatW12
namespace Go.Proofs.YtjjocahgbmibeaaGreat
open Go.Eng
set_option maxRecDepth 4000
set_option linter.unusedSimpArgs false
set_option linter.unusedVariables false
theorem _root_.Go.Eng.RO.apzE {Y : EngSys} {fn : AFn} {ops rest : List AOper} {i : Nat} {k : List AItem} {env : Env'} {mem : Mem'} {next d : Nat} {Q : Qst} {x y : AOpd} {es by_ : Nat} {z : List AV} {kk : IntKind} {n : Int} (h : ops = ⟨some d, .apz es by_ z x y, none⟩ :: rest) (hx : x.lk env = some .emp) (hy : y.lk env = some (.i kk n)) (hz : z.length = es) (hl : z.all AV.lit = true) (hn : 0 ≤ n ∧ n ≤ 1000000) (hb : by_ ≤ 1000) (h' : RO Y fn rest (i + 1) k ((d, .row (next + 16 * i)) :: env) ((next + 16 * i, .row true es n.toNat (List.replicate n.toNat z)) :: mem) next Q) : RO Y fn ops i k env mem next Q :=
  RO.u1 h (by
    have h0 : n.toNat ≤ 1000000 := by omega
    have h1 : n.toNat * by_ ≤ 140737488355328 := Nat.le_trans (Nat.mul_le_mul h0 hb) (by decide)
    have h2 : n.toNat ≤ 9223372036854775807 := Nat.le_trans h0 (by decide)
    simp [AOp.map, act, AOpd.lk_get hx, AOpd.lk_get hy, hn.1, hz, hl, apOf, apDst, h1, h2]) h'
def TrL (l : List Tr) : List AV := [.fro false 5 (l.map Tr.e)]
def IcL (l : List Int) : List AV := [.fro true 1 (l.map Ic)]
def MsL (l : List Ms) : List AV := [.fro true 3 (l.map Ms.c)]
theorem Clone_Tree (xs : List (List AV)) (h : xs.length ≤ 1000000) : RF Y 104 [.fro false 5 xs] (.own false 5 0 xs) [] := by
  refine RF.s1 rfl rfl rfl fun Q hQ => ?_
  cases xs with
  | nil =>
    refine .seq <| .reg <| .mv rfl rfl <| .nil <| .seq <| .seq <| .reg <| .mv rfl rfl <| .eqnE rfl rfl <| .nil <| .both rfl hQ ?_ ?_
    · exact .seq <| .reg <| .mv rfl rfl <| .nil <| .ret rfl ⟨rfl, rfl⟩ .empO LeBs.refl
    · exact .skip <| .seq <| .reg <| .row0 rfl rfl rfl <| .mv rfl rfl <| .ap rfl rfl rfl rfl rfl (by simp) (by decide) <| .mv rfl rfl <| .nil <| .ret rfl ⟨rfl, rfl⟩ (.ox rfl (by first | exact fun _ => rfl | exact fun h => by cases h)) LeBs.refl
  | cons p ps =>
    exact .seq <| .reg <| .mv rfl rfl <| .nil <| .seq <| .seq <| .reg <| .mv rfl rfl <| .eqnF rfl rfl rfl <| .nil <| .condF rfl <| .skip <| .seq <| .reg <| .row0 rfl rfl rfl <| .mv rfl rfl <| .ap rfl rfl rfl rfl rfl (by simp at h ⊢; omega) (by decide) <| .mv rfl rfl <| .nil <| .ret rfl hQ (.ox rfl (by first | exact fun _ => rfl | exact fun h => by cases h)) LeBs.refl
theorem Clone_int (xs : List (List AV)) (h : xs.length ≤ 1000000) : RF Y 100 [.fro true 1 xs] (.own true 1 0 xs) [] := by
  refine RF.s1 rfl rfl rfl fun Q hQ => ?_
  cases xs with
  | nil =>
    refine .seq <| .reg <| .mv rfl rfl <| .nil <| .seq <| .seq <| .reg <| .mv rfl rfl <| .eqnE rfl rfl <| .nil <| .both rfl hQ ?_ ?_
    · exact .seq <| .reg <| .mv rfl rfl <| .nil <| .ret rfl ⟨rfl, rfl⟩ .empO LeBs.refl
    · exact .skip <| .seq <| .reg <| .row0 rfl rfl rfl <| .mv rfl rfl <| .ap rfl rfl rfl rfl rfl (by simp) (by decide) <| .mv rfl rfl <| .nil <| .ret rfl ⟨rfl, rfl⟩ (.ox rfl (by first | exact fun _ => rfl | exact fun h => by cases h)) LeBs.refl
  | cons p ps =>
    exact .seq <| .reg <| .mv rfl rfl <| .nil <| .seq <| .seq <| .reg <| .mv rfl rfl <| .eqnF rfl rfl rfl <| .nil <| .condF rfl <| .skip <| .seq <| .reg <| .row0 rfl rfl rfl <| .mv rfl rfl <| .ap rfl rfl rfl rfl rfl (by simp at h ⊢; omega) (by decide) <| .mv rfl rfl <| .nil <| .ret rfl hQ (.ox rfl (by first | exact fun _ => rfl | exact fun h => by cases h)) LeBs.refl
theorem Clone_Msg (xs : List (List AV)) (h : xs.length ≤ 1000000) : RF Y 101 [.fro true 3 xs] (.own true 3 0 xs) [] := by
  refine RF.s1 rfl rfl rfl fun Q hQ => ?_
  cases xs with
  | nil =>
    refine .seq <| .reg <| .mv rfl rfl <| .nil <| .seq <| .seq <| .reg <| .mv rfl rfl <| .eqnE rfl rfl <| .nil <| .both rfl hQ ?_ ?_
    · exact .seq <| .reg <| .mv rfl rfl <| .nil <| .ret rfl ⟨rfl, rfl⟩ .empO LeBs.refl
    · exact .skip <| .seq <| .reg <| .row0 rfl rfl rfl <| .mv rfl rfl <| .ap rfl rfl rfl rfl rfl (by simp) (by decide) <| .mv rfl rfl <| .nil <| .ret rfl ⟨rfl, rfl⟩ (.ox rfl (by first | exact fun _ => rfl | exact fun h => by cases h)) LeBs.refl
  | cons p ps =>
    exact .seq <| .reg <| .mv rfl rfl <| .nil <| .seq <| .seq <| .reg <| .mv rfl rfl <| .eqnF rfl rfl rfl <| .nil <| .condF rfl <| .skip <| .seq <| .reg <| .row0 rfl rfl rfl <| .mv rfl rfl <| .ap rfl rfl rfl rfl rfl (by simp at h ⊢; omega) (by decide) <| .mv rfl rfl <| .nil <| .ret rfl hQ (.ox rfl (by first | exact fun _ => rfl | exact fun h => by cases h)) LeBs.refl
theorem Grow_Tree (n : Nat) (h : n ≤ 1000000) : RF Y 173 [.emp, i64 n] (.own true 5 0 []) [] := by
  refine RF.s2 rfl rfl rfl fun Q hQ => ?_
  refine .seq <| .reg <| .mv rfl rfl <| .nil <| .seq <| .seq <| .reg <| .mv rfl rfl <| .lssF rfl rfl rfl (by omega) <| .nil <| .condF rfl <| .skip <| .seq <| .seq <| .reg <| .mv rfl rfl <| .mv rfl rfl <| .p rfl rfl <| .mv rfl rfl <| .len rfl rfl rfl <| .sub rfl rfl rfl (by omega) <| .sub rfl rfl rfl (by omega) <| .mv rfl rfl <| .nil <| .seq <| .reg <| .mv rfl rfl <| .gtr rfl rfl rfl (fun h2 => ?_) (fun h2 => ?_)
  · refine .nil <| .condT rfl <| .reg <| .mv rfl rfl <| .mv rfl rfl <| .p rfl rfl <| .p rfl rfl <| .mv rfl rfl <| .apzE rfl rfl rfl rfl rfl (by omega) (by decide) <| .mv rfl rfl <| .len rfl rfl rfl <| .slR rfl rfl rfl (by decide) rfl bnd_nat (by simp) <| .mv rfl rfl <| .nil <| .seq <| .reg <| .mv rfl rfl <| .mv rfl rfl <| .nil <| .ret rfl hQ (by first | exact .empO | exact .ox rfl (fun _ => rfl)) LeBs.refl
  · refine .nil <| .condF rfl <| .skip <| .seq <| .reg <| .mv rfl rfl <| .mv rfl rfl <| .nil <| .ret rfl hQ (by first | exact .empO | exact .ox rfl (fun _ => rfl)) LeBs.refl
theorem Concat_Tree (L : List (List Tr)) (h : L.flatten.length ≤ 1000000) (hl : L.length ≤ 1000000) : RF Y 156 [.fro false 1 (L.map TrL)] (.own false 5 0 (L.flatten.map Tr.e)) [] := by
  refine RF.s1 rfl rfl rfl fun Q hQ => ?_
  refine .seq <| .reg <| .mv rfl rfl <| .nil <| .seq <| .reg <| .mv rfl rfl <| .nil <| .seq <| .seq <| .reg <| .mv rfl rfl <| .len rfl rfl rfl <| .mv rfl rfl <| .nil <| .block <| ?_
  refine RA.loopI fun T0 hT0 nT0 eT0 => ?_
  have L0 : ∀ (post pre : List (List Tr)) (s : Nat) (Q : Qst), L = pre ++ post → s + post.flatten.length = L.flatten.length → Q (.own false 5 0 (L.flatten.map Tr.e)) [] → RA Y a156 T0 [(0, .fro false 1 (L.map TrL)), (3, i64 s), (9, .fro false 1 (L.map TrL)), (10, i64 L.length), (11, i64 pre.length)] [] 0 Q := by
    intro post
    induction post with
    | nil =>
      intro pre s Q hc hs hQ
      have hl : L.length = pre.length := by simp [hc]
      obtain rfl : s = L.flatten.length := by simpa using hs
      rw [eT0]
      refine .seq <| .reg <| .lssF rfl rfl rfl (by omega) <| .nil <| .seq <| .condF rfl <| .exit rfl <| .seq <| .reg <| .mv rfl rfl <| .c rfl rfl rfl (Grow_Tree L.flatten.length h) .refl rfl rfl rfl (by decide) <| .mv rfl rfl <| .nil <| .seq <| .seq <| .reg <| .mv rfl rfl <| .len rfl rfl rfl <| .mv rfl rfl <| .nil <| .block <| ?_
      refine RA.loopI fun T1 hT1 nT1 eT1 => ?_
      have L1 : ∀ (post pre : List (List Tr)) (out : List Tr) (Q : Qst), L = pre ++ post → out.length + post.flatten.length = L.flatten.length → Q (.own false 5 0 ((out ++ post.flatten).map Tr.e)) [] → RA Y a156 T1 [(6, .row 0), (25, .fro false 1 (L.map TrL)), (26, i64 L.length), (27, i64 pre.length)] [(0, .row false 5 0 (out.map Tr.e))] 1 Q := by
        intro post
        induction post with
        | nil =>
          intro pre out Q hc ho hQ
          have hl : L.length = pre.length := by simp [hc]
          rw [List.flatten_nil, List.append_nil] at hQ
          rw [eT1]
          refine .seq <| .reg <| .lssF rfl rfl rfl (by omega) <| .nil <| .seq <| .condF rfl <| .exit rfl <| .seq <| .reg <| .mv rfl rfl <| .mv rfl rfl <| .nil <| .ret rfl hQ (by first | exact .rw (fun _ => rfl) | exact .rw (fun h => by cases h) | exact .ox rfl (by first | exact fun _ => rfl | exact fun h => by cases h)) LeBs.refl
        | cons a post ih =>
          intro pre out Q hc ho hQ
          have hl : L.length = pre.length + post.length + 1 := by simp [hc]; omega
          have ha : L[pre.length]? = some a := by simp [hc]
          rw [List.flatten_cons, List.length_append] at ho
          rw [eT1]
          refine .seq <| .reg <| .lssT rfl rfl rfl (by omega) <| .nil <| .seq <| .condT rfl <| .skip <| .seq <| .block <| .seq <| .reg <| .ia rfl rfl rfl (by assumption) <| .ldF (v := .fro false 5 (a.map Tr.e)) rfl rfl rfl <| .mv rfl rfl <| .nil <| .reg <| .mv rfl rfl <| .mv rfl rfl <| .ap rfl rfl rfl rfl rfl (by simp; omega) (by decide) <| .mv rfl rfl <| .nil <| .inBlock <| .reg <| .add rfl rfl rfl (by omega) <| .mv rfl rfl <| .nil <| hT1 <| ?_
          exact RA.wq [_] (ih (pre ++ [a]) (out ++ a) _ (by simp [hc]) (by simp only [List.length_append]; omega) (by rw [List.append_assoc]; rw [List.flatten_cons] at hQ; exact hQ)) nT1
      exact RA.wr [_] (L1 L [] [] _ rfl (by simp) hQ) nT1 (hm := by exact .x rfl rfl rfl (by first | exact fun _ => rfl | exact fun h => by cases h) .nil)
    | cons a post ih =>
      intro pre s Q hc hs hQ
      have hl : L.length = pre.length + post.length + 1 := by simp [hc]; omega
      have ha : L[pre.length]? = some a := by simp [hc]
      rw [List.flatten_cons, List.length_append] at hs
      rw [eT0]
      refine .seq <| .reg <| .lssT rfl rfl rfl (by omega) <| .nil <| .seq <| .condT rfl <| .skip <| .seq <| .block <| .seq <| .reg <| .ia rfl rfl rfl (by assumption) <| .ldF (v := .fro false 5 (a.map Tr.e)) rfl rfl rfl <| .mv rfl rfl <| .nil <| .seq <| .reg <| .mv rfl rfl <| .mv rfl rfl <| .len rfl rfl rfl <| .add rfl rfl rfl (by omega) <| .mv rfl rfl <| .nil <| .seq <| .reg <| .mv rfl rfl <| .lssF rfl rfl rfl (by omega) <| .nil <| .condF rfl <| .skip <| .inBlock <| .reg <| .add rfl rfl rfl (by omega) <| .mv rfl rfl <| .nil <| hT0 <| ?_
      exact RA.wq [] (ih (pre ++ [a]) (s + a.length) _ (by simp [hc]) (by omega) hQ) nT0
  exact RA.wq [] (L0 L [] 0 _ rfl (by simp) hQ) nT0
theorem Grow_int (n : Nat) (h : n ≤ 1000000) : RF Y 174 [.emp, i64 n] (.own true 1 0 []) [] := by
  refine RF.s2 rfl rfl rfl fun Q hQ => ?_
  refine .seq <| .reg <| .mv rfl rfl <| .nil <| .seq <| .seq <| .reg <| .mv rfl rfl <| .lssF rfl rfl rfl (by omega) <| .nil <| .condF rfl <| .skip <| .seq <| .seq <| .reg <| .mv rfl rfl <| .mv rfl rfl <| .p rfl rfl <| .mv rfl rfl <| .len rfl rfl rfl <| .sub rfl rfl rfl (by omega) <| .sub rfl rfl rfl (by omega) <| .mv rfl rfl <| .nil <| .seq <| .reg <| .mv rfl rfl <| .gtr rfl rfl rfl (fun h2 => ?_) (fun h2 => ?_)
  · refine .nil <| .condT rfl <| .reg <| .mv rfl rfl <| .mv rfl rfl <| .p rfl rfl <| .p rfl rfl <| .mv rfl rfl <| .apzE rfl rfl rfl rfl rfl (by omega) (by decide) <| .mv rfl rfl <| .len rfl rfl rfl <| .slR rfl rfl rfl (by decide) rfl bnd_nat (by simp) <| .mv rfl rfl <| .nil <| .seq <| .reg <| .mv rfl rfl <| .mv rfl rfl <| .nil <| .ret rfl hQ (by first | exact .empO | exact .ox rfl (fun _ => rfl)) LeBs.refl
  · refine .nil <| .condF rfl <| .skip <| .seq <| .reg <| .mv rfl rfl <| .mv rfl rfl <| .nil <| .ret rfl hQ (by first | exact .empO | exact .ox rfl (fun _ => rfl)) LeBs.refl
theorem Concat_int (L : List (List Int)) (h : L.flatten.length ≤ 1000000) (hl : L.length ≤ 1000000) : RF Y 157 [.fro false 1 (L.map IcL)] (.own true 1 0 (L.flatten.map Ic)) [] := by
  refine RF.s1 rfl rfl rfl fun Q hQ => ?_
  refine .seq <| .reg <| .mv rfl rfl <| .nil <| .seq <| .reg <| .mv rfl rfl <| .nil <| .seq <| .seq <| .reg <| .mv rfl rfl <| .len rfl rfl rfl <| .mv rfl rfl <| .nil <| .block <| ?_
  refine RA.loopI fun T0 hT0 nT0 eT0 => ?_
  have L0 : ∀ (post pre : List (List Int)) (s : Nat) (Q : Qst), L = pre ++ post → s + post.flatten.length = L.flatten.length → Q (.own true 1 0 (L.flatten.map Ic)) [] → RA Y a157 T0 [(0, .fro false 1 (L.map IcL)), (3, i64 s), (9, .fro false 1 (L.map IcL)), (10, i64 L.length), (11, i64 pre.length)] [] 0 Q := by
    intro post
    induction post with
    | nil =>
      intro pre s Q hc hs hQ
      have hl : L.length = pre.length := by simp [hc]
      obtain rfl : s = L.flatten.length := by simpa using hs
      rw [eT0]
      refine .seq <| .reg <| .lssF rfl rfl rfl (by omega) <| .nil <| .seq <| .condF rfl <| .exit rfl <| .seq <| .reg <| .mv rfl rfl <| .c rfl rfl rfl (Grow_int L.flatten.length h) .refl rfl rfl rfl (by decide) <| .mv rfl rfl <| .nil <| .seq <| .seq <| .reg <| .mv rfl rfl <| .len rfl rfl rfl <| .mv rfl rfl <| .nil <| .block <| ?_
      refine RA.loopI fun T1 hT1 nT1 eT1 => ?_
      have L1 : ∀ (post pre : List (List Int)) (out : List Int) (Q : Qst), L = pre ++ post → out.length + post.flatten.length = L.flatten.length → Q (.own true 1 0 ((out ++ post.flatten).map Ic)) [] → RA Y a157 T1 [(6, .row 0), (25, .fro false 1 (L.map IcL)), (26, i64 L.length), (27, i64 pre.length)] [(0, .row true 1 0 (out.map Ic))] 1 Q := by
        intro post
        induction post with
        | nil =>
          intro pre out Q hc ho hQ
          have hl : L.length = pre.length := by simp [hc]
          rw [List.flatten_nil, List.append_nil] at hQ
          rw [eT1]
          refine .seq <| .reg <| .lssF rfl rfl rfl (by omega) <| .nil <| .seq <| .condF rfl <| .exit rfl <| .seq <| .reg <| .mv rfl rfl <| .mv rfl rfl <| .nil <| .ret rfl hQ (by first | exact .rw (fun _ => rfl) | exact .rw (fun h => by cases h) | exact .ox rfl (by first | exact fun _ => rfl | exact fun h => by cases h)) LeBs.refl
        | cons a post ih =>
          intro pre out Q hc ho hQ
          have hl : L.length = pre.length + post.length + 1 := by simp [hc]; omega
          have ha : L[pre.length]? = some a := by simp [hc]
          rw [List.flatten_cons, List.length_append] at ho
          rw [eT1]
          refine .seq <| .reg <| .lssT rfl rfl rfl (by omega) <| .nil <| .seq <| .condT rfl <| .skip <| .seq <| .block <| .seq <| .reg <| .ia rfl rfl rfl (by assumption) <| .ldF (v := .fro true 1 (a.map Ic)) rfl rfl rfl <| .mv rfl rfl <| .nil <| .reg <| .mv rfl rfl <| .mv rfl rfl <| .ap rfl rfl rfl rfl rfl (by simp; omega) (by decide) <| .mv rfl rfl <| .nil <| .inBlock <| .reg <| .add rfl rfl rfl (by omega) <| .mv rfl rfl <| .nil <| hT1 <| ?_
          exact RA.wq [_] (ih (pre ++ [a]) (out ++ a) _ (by simp [hc]) (by simp only [List.length_append]; omega) (by rw [List.append_assoc]; rw [List.flatten_cons] at hQ; exact hQ)) nT1
      exact RA.wr [_] (L1 L [] [] _ rfl (by simp) hQ) nT1 (hm := by exact .x rfl rfl rfl (by first | exact fun _ => rfl | exact fun h => by cases h) .nil)
    | cons a post ih =>
      intro pre s Q hc hs hQ
      have hl : L.length = pre.length + post.length + 1 := by simp [hc]; omega
      have ha : L[pre.length]? = some a := by simp [hc]
      rw [List.flatten_cons, List.length_append] at hs
      rw [eT0]
      refine .seq <| .reg <| .lssT rfl rfl rfl (by omega) <| .nil <| .seq <| .condT rfl <| .skip <| .seq <| .block <| .seq <| .reg <| .ia rfl rfl rfl (by assumption) <| .ldF (v := .fro true 1 (a.map Ic)) rfl rfl rfl <| .mv rfl rfl <| .nil <| .seq <| .reg <| .mv rfl rfl <| .mv rfl rfl <| .len rfl rfl rfl <| .add rfl rfl rfl (by omega) <| .mv rfl rfl <| .nil <| .seq <| .reg <| .mv rfl rfl <| .lssF rfl rfl rfl (by omega) <| .nil <| .condF rfl <| .skip <| .inBlock <| .reg <| .add rfl rfl rfl (by omega) <| .mv rfl rfl <| .nil <| hT0 <| ?_
      exact RA.wq [] (ih (pre ++ [a]) (s + a.length) _ (by simp [hc]) (by omega) hQ) nT0
  exact RA.wq [] (L0 L [] 0 _ rfl (by simp) hQ) nT0
theorem Grow_Msg (n : Nat) (h : n ≤ 1000000) : RF Y 155 [.emp, i64 n] (.own true 3 0 []) [] := by
  refine RF.s2 rfl rfl rfl fun Q hQ => ?_
  refine .seq <| .reg <| .mv rfl rfl <| .nil <| .seq <| .seq <| .reg <| .mv rfl rfl <| .lssF rfl rfl rfl (by omega) <| .nil <| .condF rfl <| .skip <| .seq <| .seq <| .reg <| .mv rfl rfl <| .mv rfl rfl <| .p rfl rfl <| .mv rfl rfl <| .len rfl rfl rfl <| .sub rfl rfl rfl (by omega) <| .sub rfl rfl rfl (by omega) <| .mv rfl rfl <| .nil <| .seq <| .reg <| .mv rfl rfl <| .gtr rfl rfl rfl (fun h2 => ?_) (fun h2 => ?_)
  · refine .nil <| .condT rfl <| .reg <| .mv rfl rfl <| .mv rfl rfl <| .p rfl rfl <| .p rfl rfl <| .mv rfl rfl <| .apzE rfl rfl rfl rfl rfl (by omega) (by decide) <| .mv rfl rfl <| .len rfl rfl rfl <| .slR rfl rfl rfl (by decide) rfl bnd_nat (by simp) <| .mv rfl rfl <| .nil <| .seq <| .reg <| .mv rfl rfl <| .mv rfl rfl <| .nil <| .ret rfl hQ (by first | exact .empO | exact .ox rfl (fun _ => rfl)) LeBs.refl
  · refine .nil <| .condF rfl <| .skip <| .seq <| .reg <| .mv rfl rfl <| .mv rfl rfl <| .nil <| .ret rfl hQ (by first | exact .empO | exact .ox rfl (fun _ => rfl)) LeBs.refl
theorem Concat_Msg (L : List (List Ms)) (h : L.flatten.length ≤ 1000000) (hl : L.length ≤ 1000000) : RF Y 106 [.fro false 1 (L.map MsL)] (.own true 3 0 (L.flatten.map Ms.c)) [] := by
  refine RF.s1 rfl rfl rfl fun Q hQ => ?_
  refine .seq <| .reg <| .mv rfl rfl <| .nil <| .seq <| .reg <| .mv rfl rfl <| .nil <| .seq <| .seq <| .reg <| .mv rfl rfl <| .len rfl rfl rfl <| .mv rfl rfl <| .nil <| .block <| ?_
  refine RA.loopI fun T0 hT0 nT0 eT0 => ?_
  have L0 : ∀ (post pre : List (List Ms)) (s : Nat) (Q : Qst), L = pre ++ post → s + post.flatten.length = L.flatten.length → Q (.own true 3 0 (L.flatten.map Ms.c)) [] → RA Y a106 T0 [(0, .fro false 1 (L.map MsL)), (3, i64 s), (9, .fro false 1 (L.map MsL)), (10, i64 L.length), (11, i64 pre.length)] [] 0 Q := by
    intro post
    induction post with
    | nil =>
      intro pre s Q hc hs hQ
      have hl : L.length = pre.length := by simp [hc]
      obtain rfl : s = L.flatten.length := by simpa using hs
      rw [eT0]
      refine .seq <| .reg <| .lssF rfl rfl rfl (by omega) <| .nil <| .seq <| .condF rfl <| .exit rfl <| .seq <| .reg <| .mv rfl rfl <| .c rfl rfl rfl (Grow_Msg L.flatten.length h) .refl rfl rfl rfl (by decide) <| .mv rfl rfl <| .nil <| .seq <| .seq <| .reg <| .mv rfl rfl <| .len rfl rfl rfl <| .mv rfl rfl <| .nil <| .block <| ?_
      refine RA.loopI fun T1 hT1 nT1 eT1 => ?_
      have L1 : ∀ (post pre : List (List Ms)) (out : List Ms) (Q : Qst), L = pre ++ post → out.length + post.flatten.length = L.flatten.length → Q (.own true 3 0 ((out ++ post.flatten).map Ms.c)) [] → RA Y a106 T1 [(6, .row 0), (25, .fro false 1 (L.map MsL)), (26, i64 L.length), (27, i64 pre.length)] [(0, .row true 3 0 (out.map Ms.c))] 1 Q := by
        intro post
        induction post with
        | nil =>
          intro pre out Q hc ho hQ
          have hl : L.length = pre.length := by simp [hc]
          rw [List.flatten_nil, List.append_nil] at hQ
          rw [eT1]
          refine .seq <| .reg <| .lssF rfl rfl rfl (by omega) <| .nil <| .seq <| .condF rfl <| .exit rfl <| .seq <| .reg <| .mv rfl rfl <| .mv rfl rfl <| .nil <| .ret rfl hQ (by first | exact .rw (fun _ => rfl) | exact .rw (fun h => by cases h) | exact .ox rfl (by first | exact fun _ => rfl | exact fun h => by cases h)) LeBs.refl
        | cons a post ih =>
          intro pre out Q hc ho hQ
          have hl : L.length = pre.length + post.length + 1 := by simp [hc]; omega
          have ha : L[pre.length]? = some a := by simp [hc]
          rw [List.flatten_cons, List.length_append] at ho
          rw [eT1]
          refine .seq <| .reg <| .lssT rfl rfl rfl (by omega) <| .nil <| .seq <| .condT rfl <| .skip <| .seq <| .block <| .seq <| .reg <| .ia rfl rfl rfl (by assumption) <| .ldF (v := .fro true 3 (a.map Ms.c)) rfl rfl rfl <| .mv rfl rfl <| .nil <| .reg <| .mv rfl rfl <| .mv rfl rfl <| .ap rfl rfl rfl rfl rfl (by simp; omega) (by decide) <| .mv rfl rfl <| .nil <| .inBlock <| .reg <| .add rfl rfl rfl (by omega) <| .mv rfl rfl <| .nil <| hT1 <| ?_
          exact RA.wq [_] (ih (pre ++ [a]) (out ++ a) _ (by simp [hc]) (by simp only [List.length_append]; omega) (by rw [List.append_assoc]; rw [List.flatten_cons] at hQ; exact hQ)) nT1
      exact RA.wr [_] (L1 L [] [] _ rfl (by simp) hQ) nT1 (hm := by exact .x rfl rfl rfl (by first | exact fun _ => rfl | exact fun h => by cases h) .nil)
    | cons a post ih =>
      intro pre s Q hc hs hQ
      have hl : L.length = pre.length + post.length + 1 := by simp [hc]; omega
      have ha : L[pre.length]? = some a := by simp [hc]
      rw [List.flatten_cons, List.length_append] at hs
      rw [eT0]
      refine .seq <| .reg <| .lssT rfl rfl rfl (by omega) <| .nil <| .seq <| .condT rfl <| .skip <| .seq <| .block <| .seq <| .reg <| .ia rfl rfl rfl (by assumption) <| .ldF (v := .fro true 3 (a.map Ms.c)) rfl rfl rfl <| .mv rfl rfl <| .nil <| .seq <| .reg <| .mv rfl rfl <| .mv rfl rfl <| .len rfl rfl rfl <| .add rfl rfl rfl (by omega) <| .mv rfl rfl <| .nil <| .seq <| .reg <| .mv rfl rfl <| .lssF rfl rfl rfl (by omega) <| .nil <| .condF rfl <| .skip <| .inBlock <| .reg <| .add rfl rfl rfl (by omega) <| .mv rfl rfl <| .nil <| hT0 <| ?_
      exact RA.wq [] (ih (pre ++ [a]) (s + a.length) _ (by simp [hc]) (by omega) hQ) nT0
  exact RA.wq [] (L0 L [] 0 _ rfl (by simp) hQ) nT0
end Go.Proofs.YtjjocahgbmibeaaGreat
