/- Walks: when a tree is right, how great it is (the reference). -/
import Derived.Test.YtjjocahgbmibeaaW2
namespace Go.Proofs.Ytjjocahgbmibeaa
open Go.Eng
set_option maxRecDepth 4000
set_option linter.unusedSimpArgs false
set_option linter.unusedVariables false
/-- Depth of a leaf; of kids side by side, out of d, the depth of a kid; of a tree. -/
def inK (lo hi : Int) (k : Int) : Bool := decide (lo ≤ k ∧ k ≤ hi - 1)
def leafOk (t : Tr) (lo hi : Int) : Bool := mapOk t.ps && decide (t.ps.length ≤ 4) && decide (t.cs.length + t.ks.length + t.bs.length = 0) && t.ps.all fun p => inK lo hi p.k
def kidsD (d : Tr → Int → Int → Nat) (hi : Int) : List Tr → List Int → Int → Option Nat → Nat
  | [], _, _, acc => acc.getD 0 + 1
  | k :: ks, [], lo, acc => if d k lo hi = 0 ∨ (∃ e, acc = some e ∧ d k lo hi ≠ e) then 0 else kidsD d hi ks [] hi (some (d k lo hi))
  | k :: ks, c :: cs, lo, acc => if ¬ (lo + 1 ≤ c ∧ c ≤ hi - 1) then 0 else
      if d k lo c = 0 ∨ (∃ e, acc = some e ∧ d k lo c ≠ e) then 0 else kidsD d hi ks cs c (some (d k lo c))
def bufOk (lo hi : Int) (m : Ms) : Bool := m.ok && decide (m.op ≠ 4) && inK lo hi m.k
def nodeOk (t : Tr) : Bool := decide (t.ps.length = 0) && decide (2 ≤ t.ks.length ∧ t.ks.length ≤ 4) && decide (t.cs.length + 1 = t.ks.length) && decide (t.bs.length ≤ 6)
def depth : Nat → Tr → Int → Int → Nat
  | 0, _, _, _ => 0
  | n + 1, t, lo, hi => if t.leaf = true then (if leafOk t lo hi = true then 1 else 0) else
      if nodeOk t = true ∧ t.bs.all (bufOk lo hi) = true then kidsD (depth n) hi t.ks t.cs lo none else 0
def tdepth (t : Tr) : Nat := depth 7 t 0 1000
def treeOk (t : Tr) : Bool := decide (0 < tdepth t)
theorem kidsD_le (d : Tr → Int → Int → Nat) (hi : Int) (n : Nat) (hd : ∀ t lo hi, d t lo hi ≤ n) : ∀ (ks : List Tr) (cs : List Int) (lo : Int) (acc : Option Nat), acc.getD 0 ≤ n → kidsD d hi ks cs lo acc ≤ n + 1
  | [], _, _, acc, h => by simp only [kidsD]; omega
  | k :: ks, [], lo, acc, h => by simp only [kidsD]; split; omega; exact kidsD_le d hi n hd ks [] hi _ (hd _ _ _)
  | k :: ks, c :: cs, lo, acc, h => by simp only [kidsD]; split; omega; split; omega; exact kidsD_le d hi n hd ks cs c _ (hd _ _ _)
theorem depth_le : ∀ (n : Nat) (t : Tr) (lo hi : Int), depth n t lo hi ≤ n
  | 0, _, _, _ => Nat.le_refl _
  | n + 1, t, lo, hi => by
    simp only [depth]
    split
    · split <;> omega
    · split
      · exact kidsD_le _ hi n (depth_le n) _ _ _ _ (by simp)
      · omega
theorem neg_acc {d : Nat} {acc : Option Nat} (h1 : d ≠ 0) (h2 : ∀ e, acc = some e → d = e) : ¬ (d = 0 ∨ ∃ e, acc = some e ∧ d ≠ e) := by
  rintro (q | ⟨e, q, q'⟩)
  · exact h1 q
  · exact q' (h2 e q)
mutual
def Tr.np : Tr → Nat
  | .mk _ ps _ ks _ => ps.length + Tr.npL ks
def Tr.npL : List Tr → Nat
  | [] => 0
  | k :: ks => Tr.np k + Tr.npL ks
end
mutual
def Tr.nm : Tr → Nat
  | .mk _ _ _ ks bs => bs.length + Tr.nmL ks
def Tr.nmL : List Tr → Nat
  | [] => 0
  | k :: ks => Tr.nm k + Tr.nmL ks
end
theorem Tr.nm_eq (t : Tr) : t.nm = t.bs.length + Tr.nmL t.ks := by cases t; rfl
mutual
theorem Tr.cnt_le : ∀ t : Tr, t.np + t.nm ≤ t.sz
  | .mk _ ps cs ks bs => by have := Tr.cntL_le ks; simp only [Tr.np, Tr.nm, Tr.sz]; omega
theorem Tr.cntL_le : ∀ ks : List Tr, Tr.npL ks + Tr.nmL ks ≤ Tr.szL ks
  | [] => by simp [Tr.npL, Tr.nmL]
  | k :: ks => by have := Tr.cnt_le k; have := Tr.cntL_le ks; simp only [Tr.npL, Tr.nmL, Tr.szL]; omega
end
theorem Tr.nmL_app : ∀ a b : List Tr, Tr.nmL (a ++ b) = Tr.nmL a + Tr.nmL b
  | [], b => by simp [Tr.nmL]
  | k :: a, b => by have := Tr.nmL_app a b; simp [Tr.nmL]; omega
theorem s_l2Leaf (t : Tr) (lo hi : Int) (h : t.sz ≤ 1000000) (hl : 0 ≤ lo ∧ lo ≤ 1000) (hh : 0 ≤ hi ∧ hi ≤ 1000) : RF Y 122 [.agg t.e, i64 lo, i64 hi] (i64 (if leafOk t lo hi then 1 else 0 : Nat)) [] := by
  refine RF.s3 rfl rfl rfl fun Q hQ => ?_
  obtain ⟨hz1, hz2, hz3, hz4⟩ := Tr.lens h
  refine .seq <| .reg <| .box rfl rfl rfl <| .mv rfl rfl <| .nil <| .seq <| .seq <| .reg <| .fa rfl rfl <| .ldE rfl rfl rfl rfl <| .c rfl rfl rfl (s_MapOk t.ps hz1) .refl rfl rfl rfl (by decide) <| .bB (fun h1 => ?_) (fun h1 => ?_)
  · refine .notT rfl rfl <| .mv rfl rfl <| .g rfl rfl <| .fa rfl rfl <| .g rfl rfl <| .ldE rfl rfl rfl rfl <| .g rfl rfl <| .len rfl rfl rfl <| .g rfl rfl <| .gtr rfl rfl rfl (fun h2 => ?_) (fun h2 => ?_)
    · rw [show leafOk t lo hi = false by have : ¬ t.ps.length ≤ 4 := (by omega); simp [leafOk, this]] at hQ
      refine .pickF rfl rfl rfl <| .mv rfl rfl <| .gs rfl rfl rfl <| .gs rfl rfl rfl <| .gs rfl rfl rfl <| .gs rfl rfl rfl <| .gs rfl rfl rfl <| .gs rfl rfl rfl <| .gs rfl rfl rfl <| .gs rfl rfl rfl <| .gs rfl rfl rfl <| .gs rfl rfl rfl <| .gs rfl rfl rfl <| .gs rfl rfl rfl <| .pickT rfl rfl rfl <| .nil <| .condT rfl <| .seq <| .reg <| .mv rfl rfl <| .nil <| .ret rfl hQ .r LeBs.refl
    · refine .pickF rfl rfl rfl <| .mv rfl rfl <| .g rfl rfl <| .fa rfl rfl <| .g rfl rfl <| .ldE rfl rfl rfl rfl <| .g rfl rfl <| .len rfl rfl rfl <| .g rfl rfl <| .fa rfl rfl <| .g rfl rfl <| .ldE rfl rfl rfl rfl <| .g rfl rfl <| .len rfl rfl rfl <| .g rfl rfl <| .add rfl rfl rfl (by omega) <| .g rfl rfl <| .fa rfl rfl <| .g rfl rfl <| .ldE rfl rfl rfl rfl <| .g rfl rfl <| .len rfl rfl rfl <| .g rfl rfl <| .add rfl rfl rfl (by omega) <| .g rfl rfl <| .gtr rfl rfl rfl (fun h3 => ?_) (fun h3 => ?_)
      · rw [show leafOk t lo hi = false by have : ¬ t.cs.length + t.ks.length + t.bs.length = 0 := (by omega); simp only [leafOk, decide_eq_false this]; simp] at hQ
        refine .pickF rfl rfl rfl <| .nil <| .condT rfl <| .seq <| .reg <| .mv rfl rfl <| .nil <| .ret rfl hQ .r LeBs.refl
      · rw [show leafOk t lo hi = (t.ps.all fun p => inK lo hi p.k) by have e1 : t.ps.length ≤ 4 := (by omega); have e2 : t.cs.length + t.ks.length + t.bs.length = 0 := (by omega); simp only [leafOk, h1, decide_eq_true e1, decide_eq_true e2]; simp] at hQ
        refine .pickF rfl rfl rfl <| .nil <| .condF rfl <| .skip <| .seq <| .seq <| .reg <| .mv rfl rfl <| .nil <| .block <| ?_
        refine RA.loopI fun T0 hT0 nT0 eT0 => ?_
        have L0 : ∀ (post pre : List Pr)  (Q : Qst), t.ps = pre ++ post → Q (i64 (if (post.all fun p => inK lo hi p.k) then 1 else 0 : Nat)) [] → RA Y a122 T0 [(1, i64 lo), (2, i64 hi), (3, .elt 0 0 0), (7, i64 pre.length)] [(0, .box t.e)] 1 Q := by
          intro post
          induction post with
          | nil =>
            intro pre  Q hc  hQ
            have hl : t.ps.length = pre.length := by simp [hc]
            rw [eT0]
            refine .seq <| .seq <| .reg <| .mv rfl rfl <| .fa rfl rfl <| .ldE rfl rfl rfl rfl <| .len rfl rfl rfl <| .lssF rfl rfl rfl (by omega) <| .nil <| .condF rfl <| .exit rfl <| .seq <| .reg <| .mv rfl rfl <| .nil <| .ret rfl hQ .r LeBs.refl
          | cons a post ih =>
            intro pre  Q hc  hQ
            have hl : t.ps.length = pre.length + post.length + 1 := by simp [hc]; omega
            have ha : t.ps[pre.length]? = some a := by simp [hc]
            rw [eT0]
            refine .seq <| .seq <| .reg <| .mv rfl rfl <| .fa rfl rfl <| .ldE rfl rfl rfl rfl <| .len rfl rfl rfl <| .lssT rfl rfl rfl (by omega) <| .nil <| .condT rfl <| .skip <| .seq <| .block <| .seq <| .reg <| .fa rfl rfl <| .ldE rfl rfl rfl rfl <| .mv rfl rfl <| .ia rfl rfl rfl (by assumption) <| .faF rfl rfl <| .ldF rfl rfl rfl <| .mv rfl rfl <| .mv rfl rfl <| .sub rfl rfl rfl (by omega) <| .c rfl rfl rfl (s_l1In ..) .refl rfl rfl rfl (by decide) <| .bB (fun h5 => ?_) (fun h5 => ?_)
            · refine .notT rfl rfl <| .nil <| .condF rfl <| .skip <| .inBlock <| .reg <| .mv rfl rfl <| .add rfl rfl rfl (by omega) <| .mv rfl rfl <| .nil <| hT0 <| ?_
              exact RA.wq [_] (ih (pre ++ [a])  _ (by simp [hc])  (by rw [List.all_cons, show inK lo hi a.k = true from h5, Bool.true_and] at hQ; exact hQ)) nT0
            · rw [List.all_cons, show inK lo hi a.k = false from h5, Bool.false_and] at hQ
              refine .notF rfl rfl <| .nil <| .condT rfl <| .seq <| .reg <| .mv rfl rfl <| .nil <| .ret rfl hQ .r LeBs.refl
        exact RA.wq [_] (L0 t.ps []  _ rfl  hQ) nT0
  · rw [show leafOk t lo hi = false by simp [leafOk, h1]] at hQ
    refine .notF rfl rfl <| .mv rfl rfl <| .gs rfl rfl rfl <| .gs rfl rfl rfl <| .gs rfl rfl rfl <| .gs rfl rfl rfl <| .pickT rfl rfl rfl <| .mv rfl rfl <| .gs rfl rfl rfl <| .gs rfl rfl rfl <| .gs rfl rfl rfl <| .gs rfl rfl rfl <| .gs rfl rfl rfl <| .gs rfl rfl rfl <| .gs rfl rfl rfl <| .gs rfl rfl rfl <| .gs rfl rfl rfl <| .gs rfl rfl rfl <| .gs rfl rfl rfl <| .gs rfl rfl rfl <| .pickT rfl rfl rfl <| .nil <| .condT rfl <| .seq <| .reg <| .mv rfl rfl <| .nil <| .ret rfl hQ .r LeBs.refl
theorem s_l2Depth_0 (t : Tr) (lo hi : Int) : RF Y 68 [.agg t.e, i64 lo, i64 hi, i64 (0 : Nat)] (i64 (0 : Nat)) [] := by
  refine RF.s4 rfl rfl rfl fun Q hQ => ?_
  refine .seq <| .reg <| .box rfl rfl rfl <| .mv rfl rfl <| .nil <| .seq <| .seq <| .reg <| .mv rfl rfl <| .eqlT rfl rfl rfl rfl <| .nil <| .condT rfl <| .seq <| .reg <| .mv rfl rfl <| .nil <| .ret rfl hQ .r LeBs.refl
theorem s_l2Depth_s (n : Nat) (hn : n ≤ 1000) (rec : ∀ (t : Tr) (lo hi : Int), t.sz ≤ 1000000 → 0 ≤ lo ∧ lo ≤ 1000 → 0 ≤ hi ∧ hi ≤ 1000 → RF Y 68 [.agg t.e, i64 lo, i64 hi, i64 n] (i64 (depth n t lo hi : Nat)) []) (t : Tr) (lo hi : Int) (h : t.sz ≤ 1000000) (hl0 : 0 ≤ lo ∧ lo ≤ 1000) (hh : 0 ≤ hi ∧ hi ≤ 1000) : RF Y 68 [.agg t.e, i64 lo, i64 hi, i64 (n + 1 : Nat)] (i64 (depth (n + 1) t lo hi : Nat)) [] := by
  refine RF.s4 rfl rfl rfl fun Q hQ => ?_
  obtain ⟨hz1, hz2, hz3, hz4⟩ := Tr.lens h
  refine .seq <| .reg <| .box rfl rfl rfl <| .mv rfl rfl <| .nil <| .seq <| .seq <| .reg <| .mv rfl rfl <| .eqlF rfl rfl rfl (by omega) <| .nil <| .condF rfl <| .skip <| .seq <| .seq <| .reg <| .fa rfl rfl <| .ldE rfl rfl rfl rfl <| .bB (fun h2 => ?_) (fun h2 => ?_)
  · rw [show depth (n + 1) t lo hi = if leafOk t lo hi = true then 1 else 0 by simp [depth, h2]] at hQ
    refine .nil <| .condT rfl <| .seq <| .reg <| .aE rfl rfl rfl rfl <| .mv rfl rfl <| .mv rfl rfl <| .c rfl rfl rfl (s_l2Leaf t lo hi h hl0 hh) .refl rfl rfl rfl (by decide) <| .mv rfl rfl <| .nil <| .ret rfl hQ .r LeBs.refl
  · refine .nil <| .condF rfl <| .skip <| .seq <| .reg <| .fa rfl rfl <| .ldE rfl rfl rfl rfl <| .len rfl rfl rfl <| .mv rfl rfl <| .nil <| .seq <| .seq <| .reg <| .fa rfl rfl <| .ldE rfl rfl rfl rfl <| .len rfl rfl rfl <| .gtr rfl rfl rfl (fun h3 => ?_) (fun h3 => ?_)
    · rw [show depth (n + 1) t lo hi = 0 by have hno : ¬ nodeOk t = true := (by simp only [nodeOk, Bool.and_eq_true, decide_eq_true_eq]; omega); simp [depth, h2, hno]] at hQ
      refine .mv rfl rfl <| .gs rfl rfl rfl <| .gs rfl rfl rfl <| .gs rfl rfl rfl <| .pickT rfl rfl rfl <| .mv rfl rfl <| .gs rfl rfl rfl <| .gs rfl rfl rfl <| .gs rfl rfl rfl <| .gs rfl rfl rfl <| .gs rfl rfl rfl <| .gs rfl rfl rfl <| .pickT rfl rfl rfl <| .mv rfl rfl <| .gs rfl rfl rfl <| .gs rfl rfl rfl <| .gs rfl rfl rfl <| .gs rfl rfl rfl <| .pickT rfl rfl rfl <| .nil <| .condT rfl <| .seq <| .reg <| .mv rfl rfl <| .nil <| .ret rfl hQ .r LeBs.refl
    · refine .mv rfl rfl <| .g rfl rfl <| .mv rfl rfl <| .g rfl rfl <| .c rfl rfl rfl (s_l1In ..) .refl rfl rfl rfl (by decide) <| .bB (fun h4 => ?_) (fun h4 => ?_)
      · refine .g rfl rfl <| .notT rfl rfl <| .pickF rfl rfl rfl <| .mv rfl rfl <| .g rfl rfl <| .fa rfl rfl <| .g rfl rfl <| .ldE rfl rfl rfl rfl <| .g rfl rfl <| .len rfl rfl rfl <| .g rfl rfl <| .mv rfl rfl <| .g rfl rfl <| .sub rfl rfl rfl (by omega) <| .g rfl rfl <| .neq rfl rfl rfl (fun h5 => ?_) (fun h5 => ?_)
        · rw [show depth (n + 1) t lo hi = 0 by have hno : ¬ nodeOk t = true := (by simp only [nodeOk, Bool.and_eq_true, decide_eq_true_eq]; omega); simp [depth, h2, hno]] at hQ
          refine .pickF rfl rfl rfl <| .mv rfl rfl <| .gs rfl rfl rfl <| .gs rfl rfl rfl <| .gs rfl rfl rfl <| .gs rfl rfl rfl <| .pickT rfl rfl rfl <| .nil <| .condT rfl <| .seq <| .reg <| .mv rfl rfl <| .nil <| .ret rfl hQ .r LeBs.refl
        · refine .pickF rfl rfl rfl <| .mv rfl rfl <| .g rfl rfl <| .fa rfl rfl <| .g rfl rfl <| .ldE rfl rfl rfl rfl <| .g rfl rfl <| .len rfl rfl rfl <| .g rfl rfl <| .gtr rfl rfl rfl (fun h6 => ?_) (fun h6 => ?_)
          · rw [show depth (n + 1) t lo hi = 0 by have hno : ¬ nodeOk t = true := (by simp only [nodeOk, Bool.and_eq_true, decide_eq_true_eq]; omega); simp [depth, h2, hno]] at hQ
            refine .pickF rfl rfl rfl <| .nil <| .condT rfl <| .seq <| .reg <| .mv rfl rfl <| .nil <| .ret rfl hQ .r LeBs.refl
          · have h4' := of_decide_eq_true h4
            have hno : nodeOk t = true := by simp only [nodeOk, Bool.and_eq_true, decide_eq_true_eq]; omega
            have hcs : t.cs.length + 1 = t.ks.length := by omega
            rw [show depth (n + 1) t lo hi = if t.bs.all (bufOk lo hi) = true then kidsD (depth n) hi t.ks t.cs lo none else 0 by simp only [depth, h2, hno]; simp] at hQ
            refine .pickF rfl rfl rfl <| .nil <| .condF rfl <| .skip <| .seq <| .seq <| .reg <| .mv rfl rfl <| .nil <| .block <| ?_
            refine RA.loopI fun T0 hT0 nT0 eT0 => ?_
            have L0 : ∀ (post pre : List Ms)  (Q : Qst), t.bs = pre ++ post → Q (i64 (if post.all (bufOk lo hi) = true then kidsD (depth n) hi t.ks t.cs lo none else 0 : Nat)) [] → RA Y a68 T0 [(1, i64 lo), (2, i64 hi), (3, i64 (n + 1 : Nat)), (4, .elt 0 0 0), (9, i64 t.ks.length), (10, i64 pre.length)] [(0, .box t.e)] 1 Q := by
              intro post
              induction post with
              | nil =>
                intro pre  Q hc  hQ
                have hl : t.bs.length = pre.length := by simp [hc]
                simp only [List.all_nil, if_true] at hQ
                rw [eT0]
                refine .seq <| .seq <| .reg <| .mv rfl rfl <| .fa rfl rfl <| .ldE rfl rfl rfl rfl <| .len rfl rfl rfl <| .lssF rfl rfl rfl (by omega) <| .nil <| .condF rfl <| .exit rfl <| .seq <| .reg <| .mv rfl rfl <| .nil <| .seq <| .reg <| .mv rfl rfl <| .mv rfl rfl <| .nil <| .seq <| .seq <| .reg <| .mv rfl rfl <| .nil <| .block <| ?_
                refine RA.loopI fun T1 hT1 nT1 eT1 => ?_
                have L1 : ∀ (post pre : List Tr) (lo' : Int) (acc : Option Nat) (Q : Qst), t.ks = pre ++ post → acc.getD 0 ≤ n → (acc = none ∧ pre = [] ∨ ∃ e, acc = some e ∧ 0 < pre.length) → 0 ≤ lo' ∧ lo' ≤ 1000 → Q (i64 (kidsD (depth n) hi post (t.cs.drop pre.length) lo' acc : Nat)) [] → RA Y a68 T1 [(2, i64 hi), (3, i64 (n + 1 : Nat)), (4, .elt 0 0 0), (9, i64 t.ks.length), (11, i64 (acc.getD 0 : Nat)), (12, i64 lo'), (13, i64 pre.length)] [(0, .box t.e)] 1 Q := by
                  intro post
                  induction post with
                  | nil =>
                    intro pre lo' acc Q hc hacc h0 hlo hQ
                    have hl : t.ks.length = pre.length := by simp [hc]
                    simp only [kidsD] at hQ
                    rw [eT1]
                    refine .seq <| .seq <| .reg <| .mv rfl rfl <| .mv rfl rfl <| .lssF rfl rfl rfl (by omega) <| .nil <| .condF rfl <| .exit rfl <| .seq <| .reg <| .mv rfl rfl <| .add rfl rfl rfl (by omega) <| .mv rfl rfl <| .nil <| .ret rfl hQ .r LeBs.refl
                  | cons a post ih =>
                    intro pre lo' acc Q hc hacc h0 hlo hQ
                    have hl : t.ks.length = pre.length + post.length + 1 := by simp [hc]; omega
                    have ha : t.ks[pre.length]? = some a := by simp [hc]
                    have hka : a.sz ≤ 1000000 := by have := Tr.kid_sz (List.mem_of_getElem? ha); omega
                    rw [eT1]
                    refine .seq <| .seq <| .reg <| .mv rfl rfl <| .mv rfl rfl <| .lssT rfl rfl rfl (by omega) <| .nil <| .condT rfl <| .skip <| .seq <| .block <| .seq <| .reg <| .mv rfl rfl <| .mv rfl rfl <| .nil <| .seq <| .seq <| .reg <| .mv rfl rfl <| .mv rfl rfl <| .sub rfl rfl rfl (by omega) <| .lss rfl rfl rfl (fun h9 => ?_) (fun h9 => ?_)
                    · have hci : pre.length < t.cs.length := by omega
                      obtain ⟨c, hcc⟩ : ∃ c, t.cs[pre.length]? = some c := ⟨_, getD_at hci⟩
                      rw [drop_at hcc] at hQ
                      simp only [kidsD] at hQ
                      refine .nil <| .condT rfl <| .seq <| .reg <| .fa rfl rfl <| .ldE rfl rfl rfl rfl <| .mv rfl rfl <| .ia rfl rfl rfl (by assumption) <| .ldF rfl rfl rfl <| .mv rfl rfl <| .nil <| .seq <| .reg <| .mv rfl rfl <| .mv rfl rfl <| .add rfl rfl rfl (by omega) <| .mv rfl rfl <| .sub rfl rfl rfl (by omega) <| .c rfl rfl rfl (s_l1In ..) .refl rfl rfl rfl (by decide) <| .bB (fun h10 => ?_) (fun h10 => ?_)
                      · rw [if_neg (not_not_intro (of_decide_eq_true h10))] at hQ
                        refine .notT rfl rfl <| .nil <| .condF rfl <| .skip <| .seq <| .reg <| .fa rfl rfl <| .ldE rfl rfl rfl rfl <| .mv rfl rfl <| .ia rfl rfl rfl (by assumption) <| .aF rfl rfl rfl <| .mv rfl rfl <| .mv rfl rfl <| .mv rfl rfl <| .sub rfl rfl rfl (by omega) <| .c rfl rfl rfl (rec a lo' c hka hlo (by have := of_decide_eq_true h10; omega)) (.c .r (.c .r (.c .r (.c (.ie (by omega)) .n)))) rfl rfl rfl (by decide) <| .mv rfl rfl <| .nil <| .seq <| .seq <| .reg <| .mv rfl rfl <| .eql rfl rfl rfl (fun h11 => ?_) (fun h11 => ?_)
                        · rw [if_pos (.inl (by omega))] at hQ
                          refine .mv rfl rfl <| .gs rfl rfl rfl <| .gs rfl rfl rfl <| .gs rfl rfl rfl <| .gu rfl rfl <| .gu rfl rfl <| .gu rfl rfl <| .gs rfl rfl rfl <| .pickT rfl rfl rfl <| .nil <| .condT rfl <| .seq <| .reg <| .mv rfl rfl <| .nil <| .ret rfl hQ .r LeBs.refl
                        · refine .mv rfl rfl <| .g rfl rfl <| .mv rfl rfl <| .g rfl rfl <| .gtr rfl rfl rfl (fun h12 => ?_) (fun h12 => ?_)
                          · obtain ⟨e, rfl, he⟩ : ∃ e, acc = some e ∧ 0 < pre.length := h0.resolve_left (fun q => by simp [q.2] at h12)
                            refine .g rfl rfl <| .mv rfl rfl <| .g rfl rfl <| .mv rfl rfl <| .g rfl rfl <| .mv rfl rfl <| .g rfl rfl <| .neq rfl rfl rfl (fun h13 => ?_) (fun h13 => ?_)
                            · rw [if_pos (.inr ⟨e, rfl, fun q => h13 (by rw [q]; rfl)⟩)] at hQ
                              refine .g rfl rfl <| .pickT rfl rfl rfl <| .pickF rfl rfl rfl <| .nil <| .condT rfl <| .seq <| .reg <| .mv rfl rfl <| .nil <| .ret rfl hQ .r LeBs.refl
                            · rw [if_neg (neg_acc (by omega) (fun e' q => by cases q; have := Classical.not_not.1 h13; simp only [Option.getD_some] at this; omega))] at hQ
                              refine .g rfl rfl <| .pickT rfl rfl rfl <| .pickF rfl rfl rfl <| .nil <| .condF rfl <| .skip <| .seq <| .reg <| .mv rfl rfl <| .mv rfl rfl <| .nil <| .reg <| .mv rfl rfl <| .mv rfl rfl <| .nil <| .inBlock <| .reg <| .mv rfl rfl <| .add rfl rfl rfl (by omega) <| .mv rfl rfl <| .nil <| hT1 <| ?_
                              exact RA.wq [_] (ih (pre ++ [a]) c (some (depth n a lo' c)) _ (by simp [hc]) (depth_le n _ _ _) (.inr ⟨_, rfl, by simp⟩) (by have := of_decide_eq_true h10; omega) (by simpa using hQ)) nT1
                          · rw [if_neg (neg_acc (by omega) (fun e' q => by rcases h0 with ⟨z, _⟩ | ⟨_, _, z⟩ <;> first | (rw [z] at q; cases q) | omega))] at hQ
                            refine .g rfl rfl <| .mv rfl rfl <| .gs rfl rfl rfl <| .gs rfl rfl rfl <| .gs rfl rfl rfl <| .g rfl rfl <| .pickF rfl rfl rfl <| .pickF rfl rfl rfl <| .nil <| .condF rfl <| .skip <| .seq <| .reg <| .mv rfl rfl <| .mv rfl rfl <| .nil <| .reg <| .mv rfl rfl <| .mv rfl rfl <| .nil <| .inBlock <| .reg <| .mv rfl rfl <| .add rfl rfl rfl (by omega) <| .mv rfl rfl <| .nil <| hT1 <| ?_
                            exact RA.wq [_] (ih (pre ++ [a]) c (some (depth n a lo' c)) _ (by simp [hc]) (depth_le n _ _ _) (.inr ⟨_, rfl, by simp⟩) (by have := of_decide_eq_true h10; omega) (by simpa using hQ)) nT1
                      · rw [if_pos (of_decide_eq_false h10)] at hQ
                        refine .notF rfl rfl <| .nil <| .condT rfl <| .seq <| .reg <| .mv rfl rfl <| .nil <| .ret rfl hQ .r LeBs.refl
                    · rw [show t.cs.drop pre.length = [] from List.drop_eq_nil_of_le (by omega)] at hQ
                      simp only [kidsD] at hQ
                      refine .nil <| .condF rfl <| .skip <| .seq <| .reg <| .fa rfl rfl <| .ldE rfl rfl rfl rfl <| .mv rfl rfl <| .ia rfl rfl rfl (by assumption) <| .aF rfl rfl rfl <| .mv rfl rfl <| .mv rfl rfl <| .mv rfl rfl <| .sub rfl rfl rfl (by omega) <| .c rfl rfl rfl (rec a lo' hi hka hlo hh) (.c .r (.c .r (.c .r (.c (.ie (by omega)) .n)))) rfl rfl rfl (by decide) <| .mv rfl rfl <| .nil <| .seq <| .seq <| .reg <| .mv rfl rfl <| .eql rfl rfl rfl (fun h14 => ?_) (fun h14 => ?_)
                      · rw [if_pos (.inl (by omega))] at hQ
                        refine .mv rfl rfl <| .gs rfl rfl rfl <| .gs rfl rfl rfl <| .gs rfl rfl rfl <| .gu rfl rfl <| .gu rfl rfl <| .gu rfl rfl <| .gs rfl rfl rfl <| .pickT rfl rfl rfl <| .nil <| .condT rfl <| .seq <| .reg <| .mv rfl rfl <| .nil <| .ret rfl hQ .r LeBs.refl
                      · refine .mv rfl rfl <| .g rfl rfl <| .mv rfl rfl <| .g rfl rfl <| .gtr rfl rfl rfl (fun h15 => ?_) (fun h15 => ?_)
                        · obtain ⟨e, rfl, he⟩ : ∃ e, acc = some e ∧ 0 < pre.length := h0.resolve_left (fun q => by simp [q.2] at h15)
                          refine .g rfl rfl <| .mv rfl rfl <| .g rfl rfl <| .mv rfl rfl <| .g rfl rfl <| .mv rfl rfl <| .g rfl rfl <| .neq rfl rfl rfl (fun h16 => ?_) (fun h16 => ?_)
                          · rw [if_pos (.inr ⟨e, rfl, fun q => h16 (by rw [q]; rfl)⟩)] at hQ
                            refine .g rfl rfl <| .pickT rfl rfl rfl <| .pickF rfl rfl rfl <| .nil <| .condT rfl <| .seq <| .reg <| .mv rfl rfl <| .nil <| .ret rfl hQ .r LeBs.refl
                          · rw [if_neg (neg_acc (by omega) (fun e' q => by cases q; have := Classical.not_not.1 h16; simp only [Option.getD_some] at this; omega))] at hQ
                            refine .g rfl rfl <| .pickT rfl rfl rfl <| .pickF rfl rfl rfl <| .nil <| .condF rfl <| .skip <| .seq <| .reg <| .mv rfl rfl <| .mv rfl rfl <| .nil <| .reg <| .mv rfl rfl <| .mv rfl rfl <| .nil <| .inBlock <| .reg <| .mv rfl rfl <| .add rfl rfl rfl (by omega) <| .mv rfl rfl <| .nil <| hT1 <| ?_
                            exact RA.wq [_] (ih (pre ++ [a]) hi (some (depth n a lo' hi)) _ (by simp [hc]) (depth_le n _ _ _) (.inr ⟨_, rfl, by simp⟩) hh (by rw [show t.cs.drop (pre ++ [a]).length = [] from List.drop_eq_nil_of_le (by simp; omega)]; exact hQ)) nT1
                        · rw [if_neg (neg_acc (by omega) (fun e' q => by rcases h0 with ⟨z, _⟩ | ⟨_, _, z⟩ <;> first | (rw [z] at q; cases q) | omega))] at hQ
                          refine .g rfl rfl <| .mv rfl rfl <| .gs rfl rfl rfl <| .gs rfl rfl rfl <| .gs rfl rfl rfl <| .g rfl rfl <| .pickF rfl rfl rfl <| .pickF rfl rfl rfl <| .nil <| .condF rfl <| .skip <| .seq <| .reg <| .mv rfl rfl <| .mv rfl rfl <| .nil <| .reg <| .mv rfl rfl <| .mv rfl rfl <| .nil <| .inBlock <| .reg <| .mv rfl rfl <| .add rfl rfl rfl (by omega) <| .mv rfl rfl <| .nil <| hT1 <| ?_
                          exact RA.wq [_] (ih (pre ++ [a]) hi (some (depth n a lo' hi)) _ (by simp [hc]) (depth_le n _ _ _) (.inr ⟨_, rfl, by simp⟩) hh (by rw [show t.cs.drop (pre ++ [a]).length = [] from List.drop_eq_nil_of_le (by simp; omega)]; exact hQ)) nT1
                exact RA.wq [_] (L1 t.ks [] lo none _ rfl (by simp) (.inl ⟨rfl, rfl⟩) hl0 hQ) nT1
              | cons a post ih =>
                intro pre  Q hc  hQ
                have hl : t.bs.length = pre.length + post.length + 1 := by simp [hc]; omega
                have ha : t.bs[pre.length]? = some a := by simp [hc]
                rw [eT0]
                refine .seq <| .seq <| .reg <| .mv rfl rfl <| .fa rfl rfl <| .ldE rfl rfl rfl rfl <| .len rfl rfl rfl <| .lssT rfl rfl rfl (by omega) <| .nil <| .condT rfl <| .skip <| .seq <| .block <| .seq <| .reg <| .fa rfl rfl <| .ldE rfl rfl rfl rfl <| .mv rfl rfl <| .ia rfl rfl rfl (by assumption) <| .aF rfl rfl rfl <| .c rfl rfl rfl (s_MsgOk ..) .refl rfl rfl rfl (by decide) <| .bB (fun h8 => ?_) (fun h8 => ?_)
                · refine .notT rfl rfl <| .mv rfl rfl <| .g rfl rfl <| .fa rfl rfl <| .g rfl rfl <| .ldE rfl rfl rfl rfl <| .g rfl rfl <| .mv rfl rfl <| .g rfl rfl <| .ia rfl rfl rfl (by assumption) <| .g rfl rfl <| .faF rfl rfl <| .g rfl rfl <| .ldF rfl rfl rfl <| .g rfl rfl <| .eql rfl rfl rfl (fun h9 => ?_) (fun h9 => ?_)
                  · simp [bufOk, h9] at hQ
                    refine .pickF rfl rfl rfl <| .mv rfl rfl <| .gs rfl rfl rfl <| .gs rfl rfl rfl <| .gs rfl rfl rfl <| .gs rfl rfl rfl <| .gs rfl rfl rfl <| .gs rfl rfl rfl <| .gs rfl rfl rfl <| .gs rfl rfl rfl <| .gs rfl rfl rfl <| .gs rfl rfl rfl <| .gs rfl rfl rfl <| .pickT rfl rfl rfl <| .nil <| .condT rfl <| .seq <| .reg <| .mv rfl rfl <| .nil <| .ret rfl hQ .r LeBs.refl
                  · refine .pickF rfl rfl rfl <| .mv rfl rfl <| .g rfl rfl <| .fa rfl rfl <| .g rfl rfl <| .ldE rfl rfl rfl rfl <| .g rfl rfl <| .mv rfl rfl <| .g rfl rfl <| .ia rfl rfl rfl (by assumption) <| .g rfl rfl <| .faF rfl rfl <| .g rfl rfl <| .ldF rfl rfl rfl <| .g rfl rfl <| .mv rfl rfl <| .g rfl rfl <| .mv rfl rfl <| .g rfl rfl <| .sub rfl rfl rfl (by omega) <| .g rfl rfl <| .c rfl rfl rfl (s_l1In ..) .refl rfl rfl rfl (by decide) <| .bB (fun h10 => ?_) (fun h10 => ?_)
                    · refine .g rfl rfl <| .notT rfl rfl <| .pickF rfl rfl rfl <| .nil <| .condF rfl <| .skip <| .inBlock <| .reg <| .mv rfl rfl <| .add rfl rfl rfl (by omega) <| .mv rfl rfl <| .nil <| hT0 <| ?_
                      exact RA.wq [_] (ih (pre ++ [a])  _ (by simp [hc])  (by rw [List.all_cons, show bufOk lo hi a = true by (simp [bufOk, h8]; exact ⟨h9, h10⟩), Bool.true_and] at hQ; exact hQ)) nT0
                    · rw [List.all_cons, show bufOk lo hi a = false by (simp [bufOk, inK]; intro _ _; simpa using h10), Bool.false_and] at hQ
                      refine .g rfl rfl <| .notF rfl rfl <| .pickF rfl rfl rfl <| .nil <| .condT rfl <| .seq <| .reg <| .mv rfl rfl <| .nil <| .ret rfl hQ .r LeBs.refl
                · simp [bufOk, h8] at hQ
                  refine .notF rfl rfl <| .mv rfl rfl <| .gs rfl rfl rfl <| .gs rfl rfl rfl <| .gs rfl rfl rfl <| .gs rfl rfl rfl <| .gs rfl rfl rfl <| .gs rfl rfl rfl <| .gs rfl rfl rfl <| .pickT rfl rfl rfl <| .mv rfl rfl <| .gs rfl rfl rfl <| .gs rfl rfl rfl <| .gs rfl rfl rfl <| .gs rfl rfl rfl <| .gs rfl rfl rfl <| .gs rfl rfl rfl <| .gs rfl rfl rfl <| .gs rfl rfl rfl <| .gs rfl rfl rfl <| .gs rfl rfl rfl <| .gs rfl rfl rfl <| .pickT rfl rfl rfl <| .nil <| .condT rfl <| .seq <| .reg <| .mv rfl rfl <| .nil <| .ret rfl hQ .r LeBs.refl
            exact RA.wq [_] (L0 t.bs []  _ rfl  hQ) nT0
      · rw [show depth (n + 1) t lo hi = 0 by have hno : ¬ nodeOk t = true := (by have := of_decide_eq_false h4; simp only [nodeOk, Bool.and_eq_true, decide_eq_true_eq]; omega); simp [depth, h2, hno]] at hQ
        refine .g rfl rfl <| .notF rfl rfl <| .pickF rfl rfl rfl <| .mv rfl rfl <| .gs rfl rfl rfl <| .gs rfl rfl rfl <| .gs rfl rfl rfl <| .gs rfl rfl rfl <| .gs rfl rfl rfl <| .gs rfl rfl rfl <| .pickT rfl rfl rfl <| .mv rfl rfl <| .gs rfl rfl rfl <| .gs rfl rfl rfl <| .gs rfl rfl rfl <| .gs rfl rfl rfl <| .pickT rfl rfl rfl <| .nil <| .condT rfl <| .seq <| .reg <| .mv rfl rfl <| .nil <| .ret rfl hQ .r LeBs.refl
theorem s_l2Depth : ∀ (n : Nat) (hn : n ≤ 1000) (t : Tr) (lo hi : Int) (h : t.sz ≤ 1000000) (hl : 0 ≤ lo ∧ lo ≤ 1000) (hh : 0 ≤ hi ∧ hi ≤ 1000), RF Y 68 [.agg t.e, i64 lo, i64 hi, i64 n] (i64 (depth n t lo hi : Nat)) []
  | 0, _, t, lo, hi, _, _, _ => s_l2Depth_0 t lo hi
  | n + 1, hn, t, lo, hi, h, hl, hh => s_l2Depth_s n (by omega) (fun t lo hi h hl hh => s_l2Depth n (by omega) t lo hi h hl hh) t lo hi h hl hh
theorem s_TreeDepth (t : Tr) (h : t.sz ≤ 1000000) : RF Y 17 [.agg t.e] (i64 (tdepth t : Nat)) [] := by
  refine RF.s1 rfl rfl rfl fun Q hQ => ?_
  refine .seq <| .reg <| .box rfl rfl rfl <| .mv rfl rfl <| .nil <| .seq <| .reg <| .aE rfl rfl rfl rfl <| .c rfl rfl rfl (s_l2Depth 7 (by decide) t 0 1000 h (by decide) (by decide)) .refl rfl rfl rfl (by decide) <| .mv rfl rfl <| .nil <| .ret rfl hQ .r LeBs.refl
theorem s_TreeOk (t : Tr) (h : t.sz ≤ 1000000) : RF Y 18 [.agg t.e] (.b (treeOk t)) [] := by
  refine RF.s1 rfl rfl rfl fun Q hQ => ?_
  refine .seq <| .reg <| .box rfl rfl rfl <| .mv rfl rfl <| .nil <| .seq <| .reg <| .aE rfl rfl rfl rfl <| .c rfl rfl rfl (s_TreeDepth t h) .refl rfl rfl rfl (by decide) <| .gtr rfl rfl rfl (fun h1 => ?_) (fun h1 => ?_)
  · refine .mv rfl rfl <| .nil <| .ret rfl hQ (.be (by simp [treeOk]; omega)) LeBs.refl
  · refine .mv rfl rfl <| .nil <| .ret rfl hQ (.be (by simp [treeOk]; omega)) LeBs.refl
def kidP (k : Int) : List Int → Nat
  | [] => 0
  | c :: cs => if c ≤ k then kidP k cs + 1 else 0
def kidOf (t : Tr) (k : Int) : Int := if t.leaf = true ∨ treeOk t = false then -1 else kidP k t.cs
theorem kidP_le (k : Int) : ∀ cs : List Int, kidP k cs ≤ cs.length
  | [] => Nat.le_refl _
  | c :: cs => by have := kidP_le k cs; simp only [kidP, List.length_cons]; split <;> omega
end Go.Proofs.Ytjjocahgbmibeaa
