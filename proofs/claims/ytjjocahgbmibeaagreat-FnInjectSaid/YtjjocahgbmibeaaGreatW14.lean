/- Walks: messages that are shrunk (the program). -/
import Derived.Test.YtjjocahgbmibeaaGreatW13
namespace Go.Proofs.YtjjocahgbmibeaaGreat
open Go.Eng
set_option maxRecDepth 4000
set_option linter.unusedSimpArgs false
set_option linter.unusedVariables false
theorem _root_.Go.Eng.leave_v {fn : AFn} {S : St} {t id hi es mc : Nat} {fl : Bool} {xs : List (List AV)} (h1 : fn.res = [.t t]) (h2 : trues fn.modes 0 = [0]) (h3 : fn.gone = []) (ht : S.e t = .view id 0 hi) (h0 : S.e 0 = .row id) (hm : S.m id = some (.row fl es mc xs)) (hh : hi ≤ xs.length) : leave fn S = some (.own fl es mc (xs.take hi), [.junk]) := by
  simp [leave, resOf, resAll, resOne, h1, ht, expRes, expVal, expPtr, expCell, hm, hh, h2, h3, expVals, h0, Eng.putM, Eng.setM]
theorem _root_.Go.Eng.prep_vc {m : Mem} {md : List Bool} {id lo hi es mc f : Nat} {fl : Bool} {xs : List (List AV)} {cs cs' : List AV} {sn : List Nat} (hmd : md = [false, false]) (hm : m id = some (.row fl es mc xs)) (hb : lo ≤ hi ∧ hi ≤ xs.length) (hc : snapPtrs m cs = some (cs', sn)) :
    prep m md [.view id lo hi, .clo f cs] = some ([.fro fl es ((xs.take hi).drop lo), .clo f cs'], [], id :: sn) := by
  subst hmd
  simp [prep, snapVal, snapPtr, snapCell, hm, hb.1, hb.2, hc]
theorem _root_.Go.Eng.RO.clrV {Y : EngSys} {fn : AFn} {ops rest : List AOper} {i : Nat} {k : List AItem} {env : Env'} {mem : Mem'} {next : Nat} {Q : Qst} {x : AOpd} {es lo hi id mc : Nat} {fl : Bool} {z : List AV} {xs : List (List AV)} (h : ops = ⟨none, .clr es z x, none⟩ :: rest) (hx : x.lk env = some (.view id lo hi)) (hm : Eng.look mem id = some (.row fl es mc xs)) (hz : z.length = es) (hl : z.all AV.lit = true) (hb : lo ≤ hi ∧ hi ≤ xs.length) (h' : RO Y fn rest (i + 1) k env ((id, .row fl es mc (lay xs lo (List.replicate (hi - lo) z))) :: mem) next Q) : RO Y fn ops i k env mem next Q :=
  RO.n1 h (by
    simp only [AOp.map, act, AOpd.lk_get hx, hm, hz, hl, hb.1, hb.2, and_self, if_true, true_and]; rfl) h'
theorem lay_take {α : Type} (xs zs : List α) (i : Nat) (h : i ≤ xs.length) : (lay xs i zs).take i = xs.take i := by
  unfold lay
  rw [List.append_assoc, List.take_append_of_le_length (by simp; omega), List.take_take, Nat.min_self]
theorem lay_len {α : Type} (xs zs : List α) (i : Nat) (h : i + zs.length ≤ xs.length) : (lay xs i zs).length = xs.length := by unfold lay; simp; omega
def good (m : Ms) : Bool := m.ok && decide (m.op ≠ 4)
def setK (k : Int) (x : Ms) : Bool := decide (x.k = k) && decide (x.op = 1 ∨ x.op = 2)
def overI (ms : List Ms) (k : Int) : Bool := ms.any fun x => setK k x
theorem over_good (k : Int) : ∀ ms : List Ms, over ms k = overI (ms.filter good) k
  | [] => rfl
  | m :: ms => by
    have ih := over_good k ms
    unfold over overI at ih ⊢
    simp only [setK] at ih ⊢
    rw [List.any_cons, ih, List.filter_cons]
    by_cases hg : good m = true
    · rw [if_pos hg, List.any_cons]
      have : m.ok = true := by simp only [good, Bool.and_eq_true] at hg; exact hg.1
      rw [this, Bool.true_and]
    · rw [if_neg hg]
      have : (m.ok && decide (m.k = k) && decide (m.op = 1 ∨ m.op = 2)) = false := by
        cases e : m.ok with
        | false => rfl
        | true =>
          have h4 : m.op = 4 := by simpa [good, e] using hg
          simp [h4]
      rw [this, Bool.false_or]
def keyI (k : Int) (out : List Ms) : Int := idxP (fun a => decide (a.k = k)) out 0
theorem key_first (k : Int) : ∀ (out : List Ms) (n : Nat), firstK k out n = idxP (fun a => decide (a.k = k)) out n
  | [], _ => rfl
  | m :: out, n => by
    simp only [firstK, idxP, decide_eq_true_eq]
    rw [key_first k out (n + 1)]
def shI : List Ms → List Ms → List Ms
  | out, [] => out
  | out, m :: post => if overI post m.k = true then shI out post else
      if 0 ≤ keyI m.k out ∧ (out.getD (keyI m.k out).toNat default).op = 1 ∧ m.op = 3 then
        shI (out.set (keyI m.k out).toNat ⟨1, m.k, clamp ((out.getD (keyI m.k out).toNat default).v + m.v)⟩) post
      else shI (out ++ [m]) post
theorem shI_eq : ∀ (ms out : List Ms), shGo out ms = shI out (ms.filter good)
  | [], _ => rfl
  | m :: ms, out => by
    rw [shGo, List.filter_cons, over_good, key_first]
    by_cases hg : good m = true
    · rw [if_pos hg, shI]
      have h1 : m.ok = true := by simp only [good, Bool.and_eq_true] at hg; exact hg.1
      have h2 : m.op ≠ 4 := by simp only [good, Bool.and_eq_true, decide_eq_true_eq] at hg; exact hg.2
      simp only [h1, h2, false_or, Bool.true_eq_false, shI_eq ms]
      rfl
    · rw [if_neg hg]
      have : m.ok = false ∨ m.op = 4 ∨ overI (ms.filter good) m.k = true := by
        cases e : m.ok with
        | false => exact .inl rfl
        | true => exact .inr (.inl (by simpa [good, e] using hg))
      rw [if_pos this, shI_eq ms]
theorem idxP_at {f : Ms → Bool} : ∀ (l : List Ms) (n : Nat), idxP f l n = -1 ∧ l.filter (fun a => !f a) = l ∨ ∃ (j : Nat) (x : Ms), idxP f l n = ((n + j : Nat) : Int) ∧ l[j]? = some x ∧ f x = true ∧ (l.take j).filter (fun a => !f a) = l.take j
  | [], n => .inl ⟨rfl, rfl⟩
  | a :: l, n => by
    simp only [idxP]
    by_cases h : f a = true
    · exact .inr ⟨0, a, by simp [h], rfl, h, rfl⟩
    · rcases idxP_at (f := f) l (n + 1) with ⟨h1, h2⟩ | ⟨j, x, h1, h2, h3, h4⟩
      · exact .inl ⟨by rw [if_neg h]; exact h1, by rw [List.filter_cons, if_pos (by simp [h]), h2]⟩
      · exact .inr ⟨j + 1, x, by rw [if_neg h, h1]; congr 1; omega, by simpa using h2, h3, by rw [List.take_succ_cons, List.filter_cons, if_pos (by simp [h]), h4]⟩
theorem filter_step {P : Ms → Bool} {ps : List Ms} {j : Nat} {a : Ms} (ha : ps[j]? = some a) : (ps.take (j + 1)).filter P = (ps.take j).filter P ++ (if P a = true then [a] else []) := by
  obtain ⟨hj, rfl⟩ := List.getElem?_eq_some_iff.1 ha
  rw [List.take_succ_eq_append_getElem hj, List.filter_append]
  by_cases h : P ps[j] = true <;> simp [List.filter_cons, h]
theorem i_sets (m : Ms) : RF Y 153 [.agg (Ms.c m)] (.b (decide (m.op = 1 ∨ m.op = 2))) [] := by
  refine RF.s1 rfl rfl rfl fun Q hQ => ?_
  refine .seq <| .reg <| .box rfl rfl rfl <| .mv rfl rfl <| .nil <| .seq <| .reg <| .fa rfl rfl <| .ldE rfl rfl rfl rfl <| .eql rfl rfl rfl (fun h1 => ?_) (fun h1 => ?_)
  · refine .mv rfl rfl <| .gs rfl rfl rfl <| .gs rfl rfl rfl <| .gs rfl rfl rfl <| .pickT rfl rfl rfl <| .mv rfl rfl <| .nil <| .ret rfl hQ (.be (by first | (simp [] at *; done) | (simp [] at *; omega) | (simp_all []; done) | (simp_all []; omega))) LeBs.refl
  · refine .mv rfl rfl <| .g rfl rfl <| .fa rfl rfl <| .g rfl rfl <| .ldE rfl rfl rfl rfl <| .g rfl rfl <| .eql rfl rfl rfl (fun h2 => ?_) (fun h2 => ?_)
    · refine .pickF rfl rfl rfl <| .mv rfl rfl <| .nil <| .ret rfl hQ (.be (by first | (simp [] at *; done) | (simp [] at *; omega) | (simp_all []; done) | (simp_all []; omega))) LeBs.refl
    · refine .pickF rfl rfl rfl <| .mv rfl rfl <| .nil <| .ret rfl hQ (.be (by first | (simp [] at *; done) | (simp [] at *; omega) | (simp_all []; done) | (simp_all []; omega))) LeBs.refl
theorem i_Shrink_1 (m : Ms) : RF Y 151 [.agg (Ms.c m)] (.b (!good m)) [] := by
  refine RF.s1 rfl rfl rfl fun Q hQ => ?_
  refine .seq <| .reg <| .box rfl rfl rfl <| .mv rfl rfl <| .nil <| .seq <| .reg <| .aE rfl rfl rfl rfl <| .c rfl rfl rfl (i_MsgOk m) .refl rfl rfl rfl (by decide) <| .bB (fun h1 => ?_) (fun h1 => ?_)
  · refine .notT rfl rfl <| .mv rfl rfl <| .g rfl rfl <| .fa rfl rfl <| .g rfl rfl <| .ldE rfl rfl rfl rfl <| .g rfl rfl <| .eql rfl rfl rfl (fun h2 => ?_) (fun h2 => ?_)
    · refine .pickF rfl rfl rfl <| .mv rfl rfl <| .nil <| .ret rfl hQ (.be (by first | (simp [good] at *; done) | (simp [good] at *; omega) | (simp_all [good]; done) | (simp_all [good]; omega))) LeBs.refl
    · refine .pickF rfl rfl rfl <| .mv rfl rfl <| .nil <| .ret rfl hQ (.be (by first | (simp [good] at *; done) | (simp [good] at *; omega) | (simp_all [good]; done) | (simp_all [good]; omega))) LeBs.refl
  · refine .notF rfl rfl <| .mv rfl rfl <| .gs rfl rfl rfl <| .gs rfl rfl rfl <| .gs rfl rfl rfl <| .pickT rfl rfl rfl <| .mv rfl rfl <| .nil <| .ret rfl hQ (.be (by first | (simp [good] at *; done) | (simp [good] at *; omega) | (simp_all [good]; done) | (simp_all [good]; omega))) LeBs.refl
theorem i_Shrink_2 (x m : Ms) : RF Y 152 [.agg (Ms.c x), .fptr (Ms.c m) 0] (.b (setK m.k x)) [] := by
  refine RF.s2 rfl rfl rfl fun Q hQ => ?_
  refine .seq <| .reg <| .box rfl rfl rfl <| .mv rfl rfl <| .nil <| .seq <| .reg <| .fa rfl rfl <| .ldE rfl rfl rfl rfl <| .faF rfl rfl <| .ldF rfl rfl rfl <| .eql rfl rfl rfl (fun h1 => ?_) (fun h1 => ?_)
  · refine .mv rfl rfl <| .g rfl rfl <| .aE rfl rfl rfl rfl <| .g rfl rfl <| .c rfl rfl rfl (i_sets x) .refl rfl rfl rfl (by decide) <| .pickT rfl rfl rfl <| .mv rfl rfl <| .nil <| .ret rfl hQ (.be (by first | (simp [setK] at *; done) | (simp [setK] at *; omega) | (simp_all [setK]; done) | (simp_all [setK]; omega))) LeBs.refl
  · refine .mv rfl rfl <| .gs rfl rfl rfl <| .gs rfl rfl rfl <| .pickF rfl rfl rfl <| .mv rfl rfl <| .nil <| .ret rfl hQ (.be (by first | (simp [setK] at *; done) | (simp [setK] at *; omega) | (simp_all [setK]; done) | (simp_all [setK]; omega))) LeBs.refl
theorem i_Shrink_3 (x m : Ms) : RF Y 154 [.agg (Ms.c x), .fptr (Ms.c m) 0] (.b (decide (x.k = m.k))) [] := by
  refine RF.s2 rfl rfl rfl fun Q hQ => ?_
  refine .seq <| .reg <| .box rfl rfl rfl <| .mv rfl rfl <| .nil <| .seq <| .reg <| .fa rfl rfl <| .ldE rfl rfl rfl rfl <| .faF rfl rfl <| .ldF rfl rfl rfl <| .eql rfl rfl rfl (fun h1 => ?_) (fun h1 => ?_)
  · refine .mv rfl rfl <| .nil <| .ret rfl hQ (.be (by first | (simp [] at *; done) | (simp [] at *; omega) | (simp_all []; done) | (simp_all []; omega))) LeBs.refl
  · refine .mv rfl rfl <| .nil <| .ret rfl hQ (.be (by first | (simp [] at *; done) | (simp [] at *; omega) | (simp_all []; done) | (simp_all []; omega))) LeBs.refl
theorem i_give_1 (x : Ms) (cs : List Int) (i : Int) (h : cs.length ≤ 1000000) : RF Y 110 [.agg (Ms.c x), .fptr [.fro true 1 (cs.map Ic)] 0, .fptr [i64 i] 0] (.b (decide ((cntK x.k cs : Int) = i))) [] := by
  refine RF.s3 rfl rfl rfl fun Q hQ => ?_
  refine .seq <| .reg <| .box rfl rfl rfl <| .mv rfl rfl <| .nil <| .seq <| .regD <| .ldF rfl rfl rfl <| .fa rfl rfl <| .ldE rfl rfl rfl rfl <| .c rfl rfl rfl (i_kidOf cs x.k h) .refl rfl rfl rfl (by decide) <| .ldF rfl rfl rfl <| .eql rfl rfl rfl (fun h1 => ?_) (fun h1 => ?_)
  · refine .mv rfl rfl <| .nil (by kernel_rfl) <| .ret rfl hQ (.be (by first | (simp [] at *; done) | (simp [] at *; omega) | (simp_all []; done) | (simp_all []; omega))) LeBs.refl
  · refine .mv rfl rfl <| .nil (by kernel_rfl) <| .ret rfl hQ (.be (by first | (simp [] at *; done) | (simp [] at *; omega) | (simp_all []; done) | (simp_all []; omega))) LeBs.refl
theorem IndexFunc_bad (ps : List Ms)  (hp : ps.length ≤ 1000000) : RF Y 148 [.fro true 3 (ps.map Ms.c), .clo 151 []] (i64 (idxP (fun a => !good a) ps 0)) [] := by
  refine RF.s2 rfl rfl rfl fun Q hQ => ?_
  refine .seq <| .reg <| .mv rfl rfl <| .nil <| .seq <| .seq <| .reg <| .mv rfl rfl <| .len rfl rfl rfl <| .mv rfl rfl <| .nil <| .block <| ?_
  refine RA.loopI fun T0 hT0 nT0 eT0 => ?_
  have L0 : ∀ (post pre : List Ms)  (Q : Qst), ps = pre ++ post → Q (i64 (idxP (fun a => !good a) post pre.length)) [] → RA Y a148 T0 [(0, .fro true 3 (ps.map Ms.c)), (1, .clo 151 []), (7, i64 ps.length), (8, i64 pre.length)] [] 0 Q := by
    intro post
    induction post with
    | nil =>
      intro pre  Q hc  hQ
      have hl : ps.length = pre.length := by simp [hc]
      rw [eT0]
      refine .seq <| .reg <| .lssF rfl rfl rfl (by omega) <| .nil <| .seq <| .condF rfl <| .exit rfl <| .seq <| .reg <| .mv rfl rfl <| .nil <| .ret rfl hQ .r LeBs.refl
    | cons a post ih =>
      intro pre  Q hc  hQ
      have hl : ps.length = pre.length + post.length + 1 := by simp [hc]; omega
      have ha : ps[pre.length]? = some a := by simp [hc]
      rw [eT0]
      refine .seq <| .reg <| .lssT rfl rfl rfl (by omega) <| .nil <| .seq <| .condT rfl <| .skip <| .seq <| .block <| .seq <| .reg <| .mv rfl rfl <| .mv rfl rfl <| .nil <| .seq <| .reg <| .mv rfl rfl <| .mv rfl rfl <| .mv rfl rfl <| .ia rfl rfl rfl (by assumption) <| .aF rfl rfl rfl <| .c rfl rfl rfl (i_Shrink_1 a) .refl rfl rfl rfl (by decide) <| .bB (fun h2 => ?_) (fun h2 => ?_)
      · simp [idxP, h2] at hQ
        refine .nil <| .condT rfl <| .seq <| .reg <| .mv rfl rfl <| .mv rfl rfl <| .nil <| .ret rfl hQ .r LeBs.refl
      · refine .nil <| .condF rfl <| .skip <| .inBlock <| .reg <| .add rfl rfl rfl (by omega) <| .mv rfl rfl <| .nil <| hT0 <| ?_
        exact RA.wq [] (ih (pre ++ [a])  _ (by simp [hc])  (by simpa [idxP, *] using hQ)) nT0
  exact RA.wq [] (L0 ps []  _ rfl  hQ) nT0
theorem IndexFunc_over (ps : List Ms) (m : Ms) (hp : ps.length ≤ 1000000) : RF Y 148 [.fro true 3 (ps.map Ms.c), .clo 152 [.fptr (Ms.c m) 0]] (i64 (idxP (fun a => setK m.k a) ps 0)) [] := by
  refine RF.s2 rfl rfl rfl fun Q hQ => ?_
  refine .seq <| .reg <| .mv rfl rfl <| .nil <| .seq <| .seq <| .reg <| .mv rfl rfl <| .len rfl rfl rfl <| .mv rfl rfl <| .nil <| .block <| ?_
  refine RA.loopI fun T0 hT0 nT0 eT0 => ?_
  have L0 : ∀ (post pre : List Ms)  (Q : Qst), ps = pre ++ post → Q (i64 (idxP (fun a => setK m.k a) post pre.length)) [] → RA Y a148 T0 [(0, .fro true 3 (ps.map Ms.c)), (1, .clo 152 [.fptr (Ms.c m) 0]), (7, i64 ps.length), (8, i64 pre.length)] [] 0 Q := by
    intro post
    induction post with
    | nil =>
      intro pre  Q hc  hQ
      have hl : ps.length = pre.length := by simp [hc]
      rw [eT0]
      refine .seq <| .reg <| .lssF rfl rfl rfl (by omega) <| .nil <| .seq <| .condF rfl <| .exit rfl <| .seq <| .reg <| .mv rfl rfl <| .nil <| .ret rfl hQ .r LeBs.refl
    | cons a post ih =>
      intro pre  Q hc  hQ
      have hl : ps.length = pre.length + post.length + 1 := by simp [hc]; omega
      have ha : ps[pre.length]? = some a := by simp [hc]
      rw [eT0]
      refine .seq <| .reg <| .lssT rfl rfl rfl (by omega) <| .nil <| .seq <| .condT rfl <| .skip <| .seq <| .block <| .seq <| .reg <| .mv rfl rfl <| .mv rfl rfl <| .nil <| .seq <| .reg <| .mv rfl rfl <| .mv rfl rfl <| .mv rfl rfl <| .ia rfl rfl rfl (by assumption) <| .aF rfl rfl rfl <| .c rfl rfl rfl (i_Shrink_2 a m) .refl rfl rfl rfl (by decide) <| .bB (fun h2 => ?_) (fun h2 => ?_)
      · simp [idxP, h2] at hQ
        refine .nil <| .condT rfl <| .seq <| .reg <| .mv rfl rfl <| .mv rfl rfl <| .nil <| .ret rfl hQ .r LeBs.refl
      · refine .nil <| .condF rfl <| .skip <| .inBlock <| .reg <| .add rfl rfl rfl (by omega) <| .mv rfl rfl <| .nil <| hT0 <| ?_
        exact RA.wq [] (ih (pre ++ [a])  _ (by simp [hc])  (by simpa [idxP, *] using hQ)) nT0
  exact RA.wq [] (L0 ps []  _ rfl  hQ) nT0
theorem ContainsFunc_over (ps : List Ms) (m : Ms) (hp : ps.length ≤ 1000000) : RF Y 96 [.fro true 3 (ps.map Ms.c), .clo 152 [.fptr (Ms.c m) 0]] (.b (ps.any fun a => setK m.k a)) [] := by
  refine RF.s2 rfl rfl rfl fun Q hQ => ?_
  refine .seq <| .reg <| .mv rfl rfl <| .nil <| .seq <| .reg <| .mv rfl rfl <| .mv rfl rfl <| .c rfl rfl rfl (IndexFunc_over ps m hp) .refl rfl rfl rfl (by decide) <| .geq rfl rfl rfl (fun h1 => ?_) (fun h1 => ?_)
  · refine .mv rfl rfl <| .nil <| .ret rfl hQ (.be (by rw [← idxP_any _ ps 0]; simp; omega)) LeBs.refl
  · refine .mv rfl rfl <| .nil <| .ret rfl hQ (.be (by rw [← idxP_any _ ps 0]; simp; omega)) LeBs.refl
theorem IndexFunc_key (ps : List Ms) (m : Ms) (hp : ps.length ≤ 1000000) : RF Y 148 [.fro true 3 (ps.map Ms.c), .clo 154 [.fptr (Ms.c m) 0]] (i64 (idxP (fun a => decide (a.k = m.k)) ps 0)) [] := by
  refine RF.s2 rfl rfl rfl fun Q hQ => ?_
  refine .seq <| .reg <| .mv rfl rfl <| .nil <| .seq <| .seq <| .reg <| .mv rfl rfl <| .len rfl rfl rfl <| .mv rfl rfl <| .nil <| .block <| ?_
  refine RA.loopI fun T0 hT0 nT0 eT0 => ?_
  have L0 : ∀ (post pre : List Ms)  (Q : Qst), ps = pre ++ post → Q (i64 (idxP (fun a => decide (a.k = m.k)) post pre.length)) [] → RA Y a148 T0 [(0, .fro true 3 (ps.map Ms.c)), (1, .clo 154 [.fptr (Ms.c m) 0]), (7, i64 ps.length), (8, i64 pre.length)] [] 0 Q := by
    intro post
    induction post with
    | nil =>
      intro pre  Q hc  hQ
      have hl : ps.length = pre.length := by simp [hc]
      rw [eT0]
      refine .seq <| .reg <| .lssF rfl rfl rfl (by omega) <| .nil <| .seq <| .condF rfl <| .exit rfl <| .seq <| .reg <| .mv rfl rfl <| .nil <| .ret rfl hQ .r LeBs.refl
    | cons a post ih =>
      intro pre  Q hc  hQ
      have hl : ps.length = pre.length + post.length + 1 := by simp [hc]; omega
      have ha : ps[pre.length]? = some a := by simp [hc]
      rw [eT0]
      refine .seq <| .reg <| .lssT rfl rfl rfl (by omega) <| .nil <| .seq <| .condT rfl <| .skip <| .seq <| .block <| .seq <| .reg <| .mv rfl rfl <| .mv rfl rfl <| .nil <| .seq <| .reg <| .mv rfl rfl <| .mv rfl rfl <| .mv rfl rfl <| .ia rfl rfl rfl (by assumption) <| .aF rfl rfl rfl <| .c rfl rfl rfl (i_Shrink_3 a m) .refl rfl rfl rfl (by decide) <| .bB (fun h2 => ?_) (fun h2 => ?_)
      · simp [idxP, h2] at hQ
        refine .nil <| .condT rfl <| .seq <| .reg <| .mv rfl rfl <| .mv rfl rfl <| .nil <| .ret rfl hQ .r LeBs.refl
      · refine .nil <| .condF rfl <| .skip <| .inBlock <| .reg <| .add rfl rfl rfl (by omega) <| .mv rfl rfl <| .nil <| hT0 <| ?_
        exact RA.wq [] (ih (pre ++ [a])  _ (by simp [hc])  (by simpa [idxP, *] using hQ)) nT0
  exact RA.wq [] (L0 ps []  _ rfl  hQ) nT0
theorem IndexFunc_kid (ps : List Ms) (cs : List Int) (i : Int) (h : cs.length ≤ 1000000) (hp : ps.length ≤ 1000000) : RF Y 148 [.fro true 3 (ps.map Ms.c), .clo 110 [.fptr [.fro true 1 (cs.map Ic)] 0, .fptr [i64 i] 0]] (i64 (idxP (fun a => decide ((cntK a.k cs : Int) = i)) ps 0)) [] := by
  refine RF.s2 rfl rfl rfl fun Q hQ => ?_
  refine .seq <| .reg <| .mv rfl rfl <| .nil <| .seq <| .seq <| .reg <| .mv rfl rfl <| .len rfl rfl rfl <| .mv rfl rfl <| .nil <| .block <| ?_
  refine RA.loopI fun T0 hT0 nT0 eT0 => ?_
  have L0 : ∀ (post pre : List Ms)  (Q : Qst), ps = pre ++ post → Q (i64 (idxP (fun a => decide ((cntK a.k cs : Int) = i)) post pre.length)) [] → RA Y a148 T0 [(0, .fro true 3 (ps.map Ms.c)), (1, .clo 110 [.fptr [.fro true 1 (cs.map Ic)] 0, .fptr [i64 i] 0]), (7, i64 ps.length), (8, i64 pre.length)] [] 0 Q := by
    intro post
    induction post with
    | nil =>
      intro pre  Q hc  hQ
      have hl : ps.length = pre.length := by simp [hc]
      rw [eT0]
      refine .seq <| .reg <| .lssF rfl rfl rfl (by omega) <| .nil <| .seq <| .condF rfl <| .exit rfl <| .seq <| .reg <| .mv rfl rfl <| .nil <| .ret rfl hQ .r LeBs.refl
    | cons a post ih =>
      intro pre  Q hc  hQ
      have hl : ps.length = pre.length + post.length + 1 := by simp [hc]; omega
      have ha : ps[pre.length]? = some a := by simp [hc]
      rw [eT0]
      refine .seq <| .reg <| .lssT rfl rfl rfl (by omega) <| .nil <| .seq <| .condT rfl <| .skip <| .seq <| .block <| .seq <| .reg <| .mv rfl rfl <| .mv rfl rfl <| .nil <| .seq <| .reg <| .mv rfl rfl <| .mv rfl rfl <| .mv rfl rfl <| .ia rfl rfl rfl (by assumption) <| .aF rfl rfl rfl <| .c rfl rfl rfl (i_give_1 a cs i h) .refl rfl rfl rfl (by decide) <| .bB (fun h2 => ?_) (fun h2 => ?_)
      · simp [idxP, h2] at hQ
        refine .nil <| .condT rfl <| .seq <| .reg <| .mv rfl rfl <| .mv rfl rfl <| .nil <| .ret rfl hQ .r LeBs.refl
      · refine .nil <| .condF rfl <| .skip <| .inBlock <| .reg <| .add rfl rfl rfl (by omega) <| .mv rfl rfl <| .nil <| hT0 <| ?_
        exact RA.wq [] (ih (pre ++ [a])  _ (by simp [hc])  (by simpa [idxP, *] using hQ)) nT0
  exact RA.wq [] (L0 ps []  _ rfl  hQ) nT0
theorem DeleteFunc_bad (ps : List Ms)  (hp : ps.length ≤ 1000000) : RF Y 109 [.own true 3 0 (ps.map Ms.c), .clo 151 []] (.own true 3 0 ((ps.filter (fun a => !(!good a))).map Ms.c)) [.junk] := by
  refine RF.s2 rfl rfl rfl fun Q hQ => ?_
  have hix := idxP_at (f := (fun a => !good a)) ps 0
  refine .seq <| .reg <| .mv rfl rfl <| .nil <| .seq <| .reg <| .mv rfl rfl <| .mv rfl rfl <| .c rfl rfl rfl (IndexFunc_bad ps  hp) (.c (.fz (.rw (fun h => h))) (.c .r .n)) rfl rfl rfl (by decide) <| .mv rfl rfl <| .nil <| .seq <| .seq <| .reg <| .mv rfl rfl <| .eql rfl rfl rfl (fun h1 => ?_) (fun h1 => ?_)
  · have he : ps.filter (fun a => !(!good a)) = ps := by
      rcases hix with ⟨_, h⟩ | ⟨j, x, h, _⟩
      · exact h
      · omega
    rw [he] at hQ
    refine .nil <| .condT rfl <| .seq <| .reg <| .mv rfl rfl <| .mv rfl rfl <| .nil <| .ret rfl hQ (.rw (by first | exact fun _ => rfl | exact fun h => by cases h)) LeBs.refl
  · obtain ⟨j0, x0, hx3, hx0, hx1, hx2⟩ := hix.resolve_left (fun q => h1 q.1)
    rw [Nat.zero_add] at hx3
    have hj0 := (List.getElem?_eq_some_iff.1 hx0).1
    refine .nil <| .condF rfl <| .skip <| .seq <| .seq <| .reg <| .mv rfl rfl <| .add rfl rfl rfl (by omega) <| .mv rfl rfl <| .nil <| .block <| ?_
    refine RA.loopI fun T0 hT0 nT0 eT0 => ?_
    have L0 : ∀ (f j n : Nat) (X : List Ms) (Q : Qst), f = ps.length - j → n < j → j ≤ ps.length → X.length = ps.length → X.take n = (ps.take j).filter (fun a => !(!good a)) → X.drop j = ps.drop j → Q (.own true 3 0 ((ps.filter (fun a => !(!good a))).map Ms.c)) [.junk] →
        RA Y a109 T0 [(0, .row 0), (1, .clo 151 []), (5, i64 n), (6, i64 j)] [(0, .row true 3 0 (X.map Ms.c))] 1 Q := by
      intro f
      induction f using Nat.strongRecOn with
      | _ f IH =>
        intro j n X Q hf hn hj hX ht hd hQ
        rw [eT0]
        refine .seq <| .seq <| .reg <| .mv rfl rfl <| .mv rfl rfl <| .len rfl rfl rfl <| .lss rfl rfl rfl (fun h2 => ?_) (fun h2 => ?_)
        · have hjl : j < X.length := by omega
          obtain ⟨a, ha⟩ : ∃ a, X[j]? = some a := ⟨_, getD_at hjl⟩
          have hac : (X.map Ms.c)[j]? = some (Ms.c a) := by rw [List.getElem?_map, ha]; rfl
          have hpa : ps[j]? = some a := by
            have e : (X.drop j)[0]? = (ps.drop j)[0]? := by rw [hd]
            simpa [ha] using e.symm
          obtain ⟨b, hb⟩ : ∃ b, X[n]? = some b := ⟨_, getD_at (by omega)⟩
          have hbc : (X.map Ms.c)[n]? = some (Ms.c b) := by rw [List.getElem?_map, hb]; rfl
          refine .nil <| .condT rfl <| .skip <| .seq <| .block <| .seq <| .reg <| .mv rfl rfl <| .mv rfl rfl <| .iaR rfl rfl rfl rfl (by first | assumption | (simp; omega)) <| .aR rfl rfl rfl hac rfl <| .new rfl <| .stA rfl rfl rfl rfl rfl rfl <| .nil <| .seq <| .reg <| .mv rfl rfl <| .aE rfl rfl rfl rfl <| .c rfl rfl rfl (i_Shrink_1 a) .refl rfl rfl rfl (by decide) <| .bB (fun h3 => ?_) (fun h3 => ?_)
          · refine .notT rfl rfl <| .nil <| .condF rfl <| .skip <| .inBlock <| .reg <| .mv rfl rfl <| .add rfl rfl rfl (by omega) <| .mv rfl rfl <| .nil <| hT0 <| ?_
            exact RA.wq [_] (IH _ (by omega) (j + 1) n X _ rfl (by omega) (by omega) hX (by rw [filter_step hpa, if_neg (by simp [h3]), List.append_nil]; exact ht) (by rw [← List.drop_drop, ← List.drop_drop, hd]) hQ) nT0
          · refine .notF rfl rfl <| .nil <| .condT rfl <| .seq <| .reg <| .mv rfl rfl <| .mv rfl rfl <| .aE rfl rfl rfl rfl <| .iaR rfl rfl rfl rfl (by simp; omega) <| .stR rfl rfl rfl rfl rfl rfl rfl hbc (of_decide_eq_true rfl) rfl <| .nil <| .reg <| .mv rfl rfl <| .add rfl rfl rfl (by omega) <| .mv rfl rfl <| .nil <| .inBlock <| .reg <| .mv rfl rfl <| .add rfl rfl rfl (by omega) <| .mv rfl rfl <| .nil <| hT0 <| ?_
            exact RA.wr [_] (IH _ (by omega) (j + 1) (n + 1) (X.set n a) _ rfl (by omega) (by omega) (by rw [List.length_set]; exact hX) (by rw [filter_step hpa, if_pos (by simp [h3]), List.take_succ_eq_append_getElem (by rw [List.length_set]; omega), List.getElem_set_self, List.take_set_of_le (by omega), ht]) (by rw [List.drop_set_of_lt (by omega), ← List.drop_drop, ← List.drop_drop, hd]) hQ) nT0 (hm := by exact .x rfl rfl (by rw [List.map_set]; rfl) (fun _ => rfl) .nil)
        · have hfin : X.take n = ps.filter (fun a => !(!good a)) := by rw [ht, List.take_of_length_le (by omega)]
          have hnX : n ≤ (X.map Ms.c).length := by rw [List.length_map]; omega
          have hll := lay_len (X.map Ms.c) (List.replicate ((X.map Ms.c).length - n) [AV.i .i64 0, .i .i64 0, .i .i64 0]) n (by rw [List.length_replicate]; omega)
          refine .nil <| .condF rfl <| .exit rfl <| .seq <| .reg <| .mv rfl rfl <| .mv rfl rfl <| .slR rfl rfl rfl (by decide) bnd_nat rfl (by simp; omega) <| .clrV rfl rfl rfl rfl rfl (by simp; omega) <| .nil <| .seq <| .reg <| .mv rfl rfl <| .mv rfl rfl <| .slR rfl rfl rfl (by decide) rfl bnd_nat (by rw [hll]; exact ⟨Nat.zero_le _, hnX⟩) <| .mv rfl rfl <| .nil <| .ret (leave_v rfl rfl rfl rfl rfl rfl (by rw [hll]; exact hnX)) hQ (.ox (by rw [lay_take _ _ _ hnX, ← List.map_take, hfin]) (fun _ => rfl)) LeBs.refl
    exact RA.wp [_] (L0 _ (j0 + 1) j0 ps _ rfl (by omega) (by omega) rfl (by rw [filter_step hx0, if_neg (by simp [hx1]), List.append_nil]; exact hx2.symm) rfl hQ) nT0 (by exact .r rfl rfl <| .cl rfl <| .i rfl (by omega) <| .i rfl (by omega) .nil)
theorem DeleteFunc_kid (ps : List Ms) (cs : List Int) (i : Int) (h : cs.length ≤ 1000000) (hp : ps.length ≤ 1000000) : RF Y 109 [.own true 3 0 (ps.map Ms.c), .clo 110 [.fptr [.fro true 1 (cs.map Ic)] 0, .fptr [i64 i] 0]] (.own true 3 0 ((ps.filter (fun a => !(decide ((cntK a.k cs : Int) = i)))).map Ms.c)) [.junk] := by
  refine RF.s2 rfl rfl rfl fun Q hQ => ?_
  have hix := idxP_at (f := (fun a => decide ((cntK a.k cs : Int) = i))) ps 0
  refine .seq <| .reg <| .mv rfl rfl <| .nil <| .seq <| .reg <| .mv rfl rfl <| .mv rfl rfl <| .c rfl rfl rfl (IndexFunc_kid ps cs i h hp) (.c (.fz (.rw (fun h => h))) (.c .r .n)) rfl rfl rfl (by decide) <| .mv rfl rfl <| .nil <| .seq <| .seq <| .reg <| .mv rfl rfl <| .eql rfl rfl rfl (fun h1 => ?_) (fun h1 => ?_)
  · have he : ps.filter (fun a => !(decide ((cntK a.k cs : Int) = i))) = ps := by
      rcases hix with ⟨_, h⟩ | ⟨j, x, h, _⟩
      · exact h
      · omega
    rw [he] at hQ
    refine .nil <| .condT rfl <| .seq <| .reg <| .mv rfl rfl <| .mv rfl rfl <| .nil <| .ret rfl hQ (.rw (by first | exact fun _ => rfl | exact fun h => by cases h)) LeBs.refl
  · obtain ⟨j0, x0, hx3, hx0, hx1, hx2⟩ := hix.resolve_left (fun q => h1 q.1)
    rw [Nat.zero_add] at hx3
    have hj0 := (List.getElem?_eq_some_iff.1 hx0).1
    refine .nil <| .condF rfl <| .skip <| .seq <| .seq <| .reg <| .mv rfl rfl <| .add rfl rfl rfl (by omega) <| .mv rfl rfl <| .nil <| .block <| ?_
    refine RA.loopI fun T0 hT0 nT0 eT0 => ?_
    have L0 : ∀ (f j n : Nat) (X : List Ms) (Q : Qst), f = ps.length - j → n < j → j ≤ ps.length → X.length = ps.length → X.take n = (ps.take j).filter (fun a => !(decide ((cntK a.k cs : Int) = i))) → X.drop j = ps.drop j → Q (.own true 3 0 ((ps.filter (fun a => !(decide ((cntK a.k cs : Int) = i)))).map Ms.c)) [.junk] →
        RA Y a109 T0 [(0, .row 0), (1, .clo 110 [.fptr [.fro true 1 (cs.map Ic)] 0, .fptr [i64 i] 0]), (5, i64 n), (6, i64 j)] [(0, .row true 3 0 (X.map Ms.c))] 1 Q := by
      intro f
      induction f using Nat.strongRecOn with
      | _ f IH =>
        intro j n X Q hf hn hj hX ht hd hQ
        rw [eT0]
        refine .seq <| .seq <| .reg <| .mv rfl rfl <| .mv rfl rfl <| .len rfl rfl rfl <| .lss rfl rfl rfl (fun h2 => ?_) (fun h2 => ?_)
        · have hjl : j < X.length := by omega
          obtain ⟨a, ha⟩ : ∃ a, X[j]? = some a := ⟨_, getD_at hjl⟩
          have hac : (X.map Ms.c)[j]? = some (Ms.c a) := by rw [List.getElem?_map, ha]; rfl
          have hpa : ps[j]? = some a := by
            have e : (X.drop j)[0]? = (ps.drop j)[0]? := by rw [hd]
            simpa [ha] using e.symm
          obtain ⟨b, hb⟩ : ∃ b, X[n]? = some b := ⟨_, getD_at (by omega)⟩
          have hbc : (X.map Ms.c)[n]? = some (Ms.c b) := by rw [List.getElem?_map, hb]; rfl
          refine .nil <| .condT rfl <| .skip <| .seq <| .block <| .seq <| .reg <| .mv rfl rfl <| .mv rfl rfl <| .iaR rfl rfl rfl rfl (by first | assumption | (simp; omega)) <| .aR rfl rfl rfl hac rfl <| .new rfl <| .stA rfl rfl rfl rfl rfl rfl <| .nil <| .seq <| .reg <| .mv rfl rfl <| .aE rfl rfl rfl rfl <| .c rfl rfl rfl (i_give_1 a cs i h) .refl rfl rfl rfl (by decide) <| .bB (fun h3 => ?_) (fun h3 => ?_)
          · refine .notT rfl rfl <| .nil <| .condF rfl <| .skip <| .inBlock <| .reg <| .mv rfl rfl <| .add rfl rfl rfl (by omega) <| .mv rfl rfl <| .nil <| hT0 <| ?_
            exact RA.wq [_] (IH _ (by omega) (j + 1) n X _ rfl (by omega) (by omega) hX (by rw [filter_step hpa, if_neg (by simp [h3]), List.append_nil]; exact ht) (by rw [← List.drop_drop, ← List.drop_drop, hd]) hQ) nT0
          · refine .notF rfl rfl <| .nil <| .condT rfl <| .seq <| .reg <| .mv rfl rfl <| .mv rfl rfl <| .aE rfl rfl rfl rfl <| .iaR rfl rfl rfl rfl (by simp; omega) <| .stR rfl rfl rfl rfl rfl rfl rfl hbc (of_decide_eq_true rfl) rfl <| .nil <| .reg <| .mv rfl rfl <| .add rfl rfl rfl (by omega) <| .mv rfl rfl <| .nil <| .inBlock <| .reg <| .mv rfl rfl <| .add rfl rfl rfl (by omega) <| .mv rfl rfl <| .nil <| hT0 <| ?_
            exact RA.wr [_] (IH _ (by omega) (j + 1) (n + 1) (X.set n a) _ rfl (by omega) (by omega) (by rw [List.length_set]; exact hX) (by rw [filter_step hpa, if_pos (by simp [h3]), List.take_succ_eq_append_getElem (by rw [List.length_set]; omega), List.getElem_set_self, List.take_set_of_le (by omega), ht]) (by rw [List.drop_set_of_lt (by omega), ← List.drop_drop, ← List.drop_drop, hd]) hQ) nT0 (hm := by exact .x rfl rfl (by rw [List.map_set]; rfl) (fun _ => rfl) .nil)
        · have hfin : X.take n = ps.filter (fun a => !(decide ((cntK a.k cs : Int) = i))) := by rw [ht, List.take_of_length_le (by omega)]
          have hnX : n ≤ (X.map Ms.c).length := by rw [List.length_map]; omega
          have hll := lay_len (X.map Ms.c) (List.replicate ((X.map Ms.c).length - n) [AV.i .i64 0, .i .i64 0, .i .i64 0]) n (by rw [List.length_replicate]; omega)
          refine .nil <| .condF rfl <| .exit rfl <| .seq <| .reg <| .mv rfl rfl <| .mv rfl rfl <| .slR rfl rfl rfl (by decide) bnd_nat rfl (by simp; omega) <| .clrV rfl rfl rfl rfl rfl (by simp; omega) <| .nil <| .seq <| .reg <| .mv rfl rfl <| .mv rfl rfl <| .slR rfl rfl rfl (by decide) rfl bnd_nat (by rw [hll]; exact ⟨Nat.zero_le _, hnX⟩) <| .mv rfl rfl <| .nil <| .ret (leave_v rfl rfl rfl rfl rfl rfl (by rw [hll]; exact hnX)) hQ (.ox (by rw [lay_take _ _ _ hnX, ← List.map_take, hfin]) (fun _ => rfl)) LeBs.refl
    exact RA.wp [_] (L0 _ (j0 + 1) j0 ps _ rfl (by omega) (by omega) rfl (by rw [filter_step hx0, if_neg (by simp [hx1]), List.append_nil]; exact hx2.symm) rfl hQ) nT0 (by exact .r rfl rfl <| .c rfl (.clo rfl (pairC (.v .refl rfl) (pair1 (.v .refl rfl)))) <| .i rfl (by omega) <| .i rfl (by omega) .nil)
theorem DeleteFunc_good (ms : List Ms) (h : ms.length ≤ 1000000) : RF Y 109 [.own true 3 0 (ms.map Ms.c), .clo 151 []] (.own true 3 0 ((ms.filter good).map Ms.c)) [.junk] := by
  have := DeleteFunc_bad ms h
  simp only [Bool.not_not] at this
  exact this
theorem i_Shrink (ms : List Ms) (h : ms.length ≤ 1000000) : RF Y 105 [.fro true 3 (ms.map Ms.c)] (.own true 3 0 ((shrink ms).map Ms.c)) [] := by
  refine RF.s1 rfl rfl rfl fun Q hQ => ?_
  have hFl := List.length_filter_le good ms
  have hFok : ∀ x, x ∈ ms.filter good → x.ok = true := fun x hx => by have := (List.mem_filter.1 hx).2; simp only [good, Bool.and_eq_true] at this; exact this.1
  rw [show shrink ms = shI [] (ms.filter good) from shI_eq ms []] at hQ
  have hDel := DeleteFunc_good ms h
  generalize ms.filter good = F at hFl hFok hQ hDel
  refine .seq <| .reg <| .mv rfl rfl <| .nil <| .seq <| .reg <| .mv rfl rfl <| .c rfl rfl rfl (Clone_Msg (ms.map Ms.c) (by simpa using h)) .refl rfl rfl rfl (by decide) <| .cM rfl rfl rfl hDel (.c .r (.c .r .n)) rfl rfl (by decide) <| .mv rfl rfl <| .nil <| .seq <| .reg <| .row0 rfl rfl rfl <| .mv rfl rfl <| .nil <| .seq <| .seq <| .reg <| .mv rfl rfl <| .len rfl rfl rfl <| .mv rfl rfl <| .nil <| .block <| ?_
  refine RA.loopI fun T0 hT0 nT0 eT0 => ?_
  have L0 : ∀ (post pre : List Ms) (out : List Ms) (Q : Qst), F = pre ++ post → (∀ x, x ∈ out → -1000000000 ≤ x.v ∧ x.v ≤ 1000000000) → out.length ≤ pre.length → Q (.own true 3 0 ((shI out post).map Ms.c)) [] → RA Y a105 T0 [(3, .row 0), (4, .row 1), (13, .row 0), (14, i64 F.length), (15, i64 pre.length)] [(0, .row true 3 0 (F.map Ms.c)), (1, .row true 3 0 (out.map Ms.c))] 2 Q := by
    intro post
    induction post with
    | nil =>
      intro pre out Q hc hb ho hQ
      have hl : F.length = pre.length := by simp [hc]
      rw [eT0]
      refine .seq <| .reg <| .lssF rfl rfl rfl (by omega) <| .nil <| .seq <| .condF rfl <| .exit rfl <| .seq <| .reg <| .mv rfl rfl <| .mv rfl rfl <| .nil <| .ret rfl hQ (.rw (by first | exact fun _ => rfl | exact fun h => by cases h)) LeBs.refl
    | cons a post ih =>
      intro pre out Q hc hb ho hQ
      have hl : F.length = pre.length + post.length + 1 := by simp [hc]; omega
      have ha : F[pre.length]? = some a := by simp [hc]
      have hd : F.drop (pre.length + 1) = post := by simp [hc]
      have hac : (F.map Ms.c)[pre.length]? = some (Ms.c a) := by rw [List.getElem?_map, ha]; rfl
      have hm := hFok a (by simp [hc])
      simp only [Ms.ok, decide_eq_true_eq] at hm
      have hb2 : ∀ x, x ∈ out ++ [a] → -1000000000 ≤ x.v ∧ x.v ≤ 1000000000 := by
        intro x hx
        rcases List.mem_append.1 hx with hx | hx
        · exact hb x hx
        · obtain rfl := List.mem_singleton.1 hx; omega
      rw [eT0]
      refine .seq <| .reg <| .lssT rfl rfl rfl (by omega) <| .nil <| .seq <| .condT rfl <| .skip <| .seq <| .block <| .seq <| .reg <| .mv rfl rfl <| .iaR rfl rfl rfl rfl (by first | assumption | (simp; omega)) <| .aR rfl rfl rfl (by assumption) rfl <| .new rfl <| .mv rfl rfl <| .stA rfl rfl rfl rfl rfl rfl <| .nil <| .seq <| .reg <| .mv rfl rfl <| .mv rfl rfl <| .add rfl rfl rfl (by omega) <| .slR rfl rfl rfl (by decide) bnd_nat rfl (by simp; omega) <| .mf rfl <| .c rfl rfl (prep_vc rfl rfl (by simp; omega) rfl) (ContainsFunc_over post a (by omega)) (.c (.fz (.rx (fun h => h) (by rw [List.take_of_length_le (by simp)]; exact hd))) (.c .r .n)) rfl rfl rfl (by decide) <| .bB (fun h2 => ?_) (fun h2 => ?_)
      · refine .mv rfl rfl <| .nil <| .seq <| .seq <| .reg <| .mv rfl rfl <| .nil <| .condT rfl <| .exit rfl <| .reg <| .add rfl rfl rfl (by omega) <| .mv rfl rfl <| .nil <| hT0 <| ?_
        exact RA.wq [_, _] (ih (pre ++ [a]) out _ (by simp [hc]) hb (by simp; omega) (by rw [shI, if_pos (show overI post a.k = true from h2)] at hQ; exact hQ)) nT0
      · refine .mv rfl rfl <| .nil <| .seq <| .seq <| .reg <| .mv rfl rfl <| .nil <| .condF rfl <| .skip <| .seq <| .reg <| .mv rfl rfl <| .mf rfl <| .c rfl rfl rfl (IndexFunc_key out a (by omega)) (.c (.fz (.rw (fun h => h))) (.c .r .n)) rfl rfl rfl (by decide) <| .mv rfl rfl <| .nil <| .seq <| .seq <| .reg <| .fa rfl rfl <| .ldE rfl rfl rfl rfl <| .eql rfl rfl rfl (fun h3 => ?_) (fun h3 => ?_)
        · refine .mv rfl rfl <| .g rfl rfl <| .mv rfl rfl <| .g rfl rfl <| .geq rfl rfl rfl (fun h4 => ?_) (fun h4 => ?_)
          · obtain ⟨j, x, hf, hx, hx3, _⟩ := (idxP_at (f := fun y => decide (y.k = a.k)) out 0).resolve_left (by rintro ⟨q, _⟩; omega)
            rw [Nat.zero_add] at hf
            have hj := (List.getElem?_eq_some_iff.1 hx).1
            have hxc : (out.map Ms.c)[(idxP (fun y => decide (y.k = a.k)) out 0).toNat]? = some (Ms.c x) := by rw [hf]; simp [hx]
            have hxl : (idxP (fun y => decide (y.k = a.k)) out 0).toNat < (out.map Ms.c).length := by rw [hf]; simp; omega
            have hxb := hb x (List.mem_of_getElem? hx)
            have hgd : out.getD (keyI a.k out).toNat default = x := by unfold keyI; rw [hf]; simp [List.getD, hx]
            have hky : keyI a.k out = (j : Int) := hf
            refine .pickT rfl rfl rfl <| .mv rfl rfl <| .g rfl rfl <| .mv rfl rfl <| .g rfl rfl <| .mv rfl rfl <| .g rfl rfl <| .iaRI rfl rfl rfl rfl (by omega) (by first | assumption | (simp; omega)) <| .g rfl rfl <| .fa rfl rfl <| .g rfl rfl <| .ldR rfl rfl rfl (by assumption) rfl <| .g rfl rfl <| .eql rfl rfl rfl (fun h5 => ?_) (fun h5 => ?_)
            · have hb3 : ∀ y, y ∈ out.set j ⟨1, a.k, clamp (x.v + a.v)⟩ → -1000000000 ≤ y.v ∧ y.v ≤ 1000000000 := by
                intro y hy
                rcases List.mem_or_eq_of_mem_set hy with hy | rfl
                · exact hb y hy
                · exact clamp_ok _
              refine .pickT rfl rfl rfl <| .nil <| .condT rfl <| .seq <| .regD <| .mv rfl rfl <| .mv rfl rfl <| .mv rfl rfl <| .mv rfl rfl <| .iaRI rfl rfl rfl rfl (by omega) (by first | assumption | (simp; omega)) <| .fa rfl rfl <| .ldR rfl rfl rfl (by assumption) rfl <| .fa rfl rfl <| .ldE rfl rfl rfl rfl <| .add rfl rfl rfl (by omega) <| .c rfl rfl rfl (i_limited (x.v + a.v)) .refl rfl rfl rfl (by decide) <| .iaRI rfl rfl rfl rfl (by omega) (by first | assumption | (simp; omega)) <| .fa rfl rfl <| .stR rfl rfl rfl rfl rfl rfl rfl (by assumption) (of_decide_eq_true rfl) rfl <| .nil (by kernel_rfl) <| .exit rfl <| .reg <| .add rfl rfl rfl (by omega) <| .mv rfl rfl <| .nil <| hT0 <| ?_
              exact RA.wr [_, _] (ih (pre ++ [a]) (out.set j ⟨1, a.k, clamp (x.v + a.v)⟩) _ (by simp [hc]) hb3 (by simp; omega) (by rw [shI, if_neg (by rw [show overI post a.k = false from h2]; simp), if_pos (by rw [hgd, hky]; exact ⟨Int.natCast_nonneg _, h5, h3⟩), hgd, hky] at hQ; exact hQ)) nT0 (hm := by exact .r rfl rfl (fun _ => rfl) <| .x rfl rfl (by simp [lay, Ms.c, of_decide_eq_true hx3, hf, show x.op = 1 from h5]) (fun _ => rfl) .nil)
            · refine .pickT rfl rfl rfl <| .nil <| .condF rfl <| .skip <| .reg <| .mv rfl rfl <| .aE rfl rfl rfl rfl <| .row1P rfl rfl rfl rfl rfl rfl rfl rfl <| .ap rfl rfl rfl rfl rfl (by simp; omega) (by decide) <| .mv rfl rfl <| .nil <| .inBlock <| .reg <| .add rfl rfl rfl (by omega) <| .mv rfl rfl <| .nil <| hT0 <| ?_
              exact RA.wq [_, _] (ih (pre ++ [a]) (out ++ [a]) _ (by simp [hc]) hb2 (by simp; omega) (by rw [shI, if_neg (by rw [show overI post a.k = false from h2]; simp), if_neg (fun q => h5 (by rw [← hgd]; exact q.2.1))] at hQ; exact hQ)) nT0
          · refine .pickT rfl rfl rfl <| .mv rfl rfl <| .gs rfl rfl rfl <| .gs rfl rfl rfl <| .gs rfl rfl rfl <| .gs rfl rfl rfl <| .gs rfl rfl rfl <| .gs rfl rfl rfl <| .pickF rfl rfl rfl <| .nil <| .condF rfl <| .skip <| .reg <| .mv rfl rfl <| .aE rfl rfl rfl rfl <| .row1P rfl rfl rfl rfl rfl rfl rfl rfl <| .ap rfl rfl rfl rfl rfl (by simp; omega) (by decide) <| .mv rfl rfl <| .nil <| .inBlock <| .reg <| .add rfl rfl rfl (by omega) <| .mv rfl rfl <| .nil <| hT0 <| ?_
            exact RA.wq [_, _] (ih (pre ++ [a]) (out ++ [a]) _ (by simp [hc]) hb2 (by simp; omega) (by rw [shI, if_neg (by rw [show overI post a.k = false from h2]; simp), if_neg (fun q => h4 q.1)] at hQ; exact hQ)) nT0
        · refine .mv rfl rfl <| .gs rfl rfl rfl <| .gs rfl rfl rfl <| .pickF rfl rfl rfl <| .mv rfl rfl <| .gs rfl rfl rfl <| .gs rfl rfl rfl <| .gs rfl rfl rfl <| .gs rfl rfl rfl <| .gs rfl rfl rfl <| .gs rfl rfl rfl <| .pickF rfl rfl rfl <| .nil <| .condF rfl <| .skip <| .reg <| .mv rfl rfl <| .aE rfl rfl rfl rfl <| .row1P rfl rfl rfl rfl rfl rfl rfl rfl <| .ap rfl rfl rfl rfl rfl (by simp; omega) (by decide) <| .mv rfl rfl <| .nil <| .inBlock <| .reg <| .add rfl rfl rfl (by omega) <| .mv rfl rfl <| .nil <| hT0 <| ?_
          exact RA.wq [_, _] (ih (pre ++ [a]) (out ++ [a]) _ (by simp [hc]) hb2 (by simp; omega) (by rw [shI, if_neg (by rw [show overI post a.k = false from h2]; simp), if_neg (fun q => h3 q.2.2)] at hQ; exact hQ)) nT0
  exact RA.wq [_, _] (L0 F [] [] _ rfl (by simp) (by simp) hQ) nT0
theorem i_ofKid (cs : List Int) (buf : List Ms) (i : Nat) (h : cs.length ≤ 1000000) (hb : buf.length ≤ 1000000) (hs : ∀ k, cntK k cs = kidP k cs) : RF Y 108 [.fro true 1 (cs.map Ic), .fro true 3 (buf.map Ms.c), i64 i] (.own true 3 0 ((mine cs i buf).map Ms.c)) [] := by
  refine RF.s3 rfl rfl rfl fun Q hQ => ?_
  refine .seq <| .reg <| .mv rfl rfl <| .nil <| .seq <| .reg <| .row0 rfl rfl rfl <| .mv rfl rfl <| .nil <| .seq <| .seq <| .reg <| .mv rfl rfl <| .len rfl rfl rfl <| .mv rfl rfl <| .nil <| .block <| ?_
  refine RA.loopI fun T0 hT0 nT0 eT0 => ?_
  have L0 : ∀ (post pre : List Ms) (out : List Ms) (Q : Qst), buf = pre ++ post → out.length ≤ pre.length → Q (.own true 3 0 ((out ++ mine cs i post).map Ms.c)) [] → RA Y a108 T0 [(0, .fro true 1 (cs.map Ic)), (2, i64 i), (7, .row 0), (11, .fro true 3 (buf.map Ms.c)), (12, i64 buf.length), (13, i64 pre.length)] [(0, .row true 3 0 (out.map Ms.c))] 1 Q := by
    intro post
    induction post with
    | nil =>
      intro pre out Q hc ho hQ
      have hl : buf.length = pre.length := by simp [hc]
      rw [show mine cs i [] = [] from rfl, List.append_nil] at hQ
      rw [eT0]
      refine .seq <| .reg <| .lssF rfl rfl rfl (by omega) <| .nil <| .seq <| .condF rfl <| .exit rfl <| .seq <| .reg <| .mv rfl rfl <| .mv rfl rfl <| .nil <| .ret rfl hQ (.rw (by first | exact fun _ => rfl | exact fun h => by cases h)) LeBs.refl
    | cons a post ih =>
      intro pre out Q hc ho hQ
      have hl : buf.length = pre.length + post.length + 1 := by simp [hc]; omega
      have ha : buf[pre.length]? = some a := by simp [hc]
      have hsa := hs a.k
      rw [eT0]
      refine .seq <| .reg <| .lssT rfl rfl rfl (by omega) <| .nil <| .seq <| .condT rfl <| .skip <| .seq <| .block <| .seq <| .reg <| .ia rfl rfl rfl (by assumption) <| .aF rfl rfl rfl <| .new rfl <| .stA rfl rfl rfl rfl rfl rfl <| .nil <| .seq <| .reg <| .mv rfl rfl <| .fa rfl rfl <| .ldE rfl rfl rfl rfl <| .c rfl rfl rfl (i_kidOf cs a.k h) .refl rfl rfl rfl (by decide) <| .mv rfl rfl <| .eql rfl rfl rfl (fun h2 => ?_) (fun h2 => ?_)
      · refine .nil <| .condT rfl <| .reg <| .mv rfl rfl <| .aE rfl rfl rfl rfl <| .row1P rfl rfl rfl rfl rfl rfl rfl rfl <| .ap rfl rfl rfl rfl rfl (by simp; omega) (by decide) <| .mv rfl rfl <| .nil <| .inBlock <| .reg <| .add rfl rfl rfl (by omega) <| .mv rfl rfl <| .nil <| hT0 <| ?_
        exact RA.wq [_] (ih (pre ++ [a]) (out ++ [a]) _ (by simp [hc]) (by simp; omega) (by rw [show mine cs i (a :: post) = a :: mine cs i post by unfold mine; rw [List.filter_cons, if_pos (by simp; omega)]] at hQ; simpa using hQ)) nT0
      · refine .nil <| .condF rfl <| .skip <| .inBlock <| .reg <| .add rfl rfl rfl (by omega) <| .mv rfl rfl <| .nil <| hT0 <| ?_
        exact RA.wq [_] (ih (pre ++ [a]) out _ (by simp [hc]) (by simp; omega) (by rw [show mine cs i (a :: post) = mine cs i post by unfold mine; rw [List.filter_cons, if_neg (by simp; omega)]] at hQ; exact hQ)) nT0
  exact RA.wq [_] (L0 buf [] [] _ rfl (by simp) hQ) nT0
theorem i_fullest (m : Mn) (buf : List Ms) (h : m.cs.length ≤ 1000000) (hb : buf.length ≤ 1000000) (ht : m.ts.length ≤ 1000000) (hs : ∀ k, cntK k m.cs = kidP k m.cs) : RF Y 107 [.agg (Mn.e m), .fro true 3 (buf.map Ms.c)] (i64 (most m buf : Nat)) [] := by
  refine RF.s2 rfl rfl rfl fun Q hQ => ?_
  refine .seq <| .reg <| .box rfl rfl rfl <| .mv rfl rfl <| .nil <| .seq <| .reg <| .mv rfl rfl <| .mv rfl rfl <| .nil <| .seq <| .seq <| .reg <| .fa rfl rfl <| .ldE rfl rfl rfl rfl <| .len rfl rfl rfl <| .mv rfl rfl <| .nil <| .block <| ?_
  refine RA.loopI fun T0 hT0 nT0 eT0 => ?_
  have L0 : ∀ (post pre : List Tr) (best : Nat) (mo : Int) (Q : Qst), m.ts = pre ++ post → Q (i64 (mostGo m.cs buf post.length pre.length best mo : Nat)) [] → RA Y a107 T0 [(1, .fro true 3 (buf.map Ms.c)), (2, .elt 0 0 0), (5, i64 best), (6, i64 mo), (11, i64 m.ts.length), (12, i64 pre.length)] [(0, .box (Mn.e m))] 1 Q := by
    intro post
    induction post with
    | nil =>
      intro pre best mo Q hc  hQ
      have hl : m.ts.length = pre.length := by simp [hc]
      rw [eT0]
      refine .seq <| .reg <| .lssF rfl rfl rfl (by omega) <| .nil <| .seq <| .condF rfl <| .exit rfl <| .seq <| .reg <| .mv rfl rfl <| .mv rfl rfl <| .nil <| .ret rfl hQ .r LeBs.refl
    | cons a post ih =>
      intro pre best mo Q hc  hQ
      have hl : m.ts.length = pre.length + post.length + 1 := by simp [hc]; omega
      have ha : m.ts[pre.length]? = some a := by simp [hc]
      rw [eT0]
      refine .seq <| .reg <| .lssT rfl rfl rfl (by omega) <| .nil <| .seq <| .condT rfl <| .skip <| .seq <| .block <| .seq <| .reg <| .mv rfl rfl <| .mv rfl rfl <| .nil <| .seq <| .reg <| .fa rfl rfl <| .ldE rfl rfl rfl rfl <| .mv rfl rfl <| .mv rfl rfl <| .c rfl rfl rfl (i_ofKid m.cs buf pre.length h hb hs) .refl rfl rfl rfl (by decide) <| .len rfl rfl rfl <| .mv rfl rfl <| .nil <| .seq <| .reg <| .mv rfl rfl <| .mv rfl rfl <| .gtr rfl rfl rfl (fun h2 => ?_) (fun h2 => ?_)
      · refine .nil <| .condT rfl <| .reg <| .mv rfl rfl <| .mv rfl rfl <| .mv rfl rfl <| .mv rfl rfl <| .nil <| .inBlock <| .reg <| .add rfl rfl rfl (by omega) <| .mv rfl rfl <| .nil <| hT0 <| ?_
        exact RA.wq [_] (ih (pre ++ [a]) pre.length (mine m.cs pre.length buf).length _ (by simp [hc])  (by simp only [List.length_cons, mostGo, if_pos h2] at hQ; simpa using hQ)) nT0
      · refine .nil <| .condF rfl <| .skip <| .inBlock <| .reg <| .add rfl rfl rfl (by omega) <| .mv rfl rfl <| .nil <| hT0 <| ?_
        exact RA.wq [_] (ih (pre ++ [a]) best mo _ (by simp [hc])  (by simp only [List.length_cons, mostGo, if_neg h2] at hQ; simpa using hQ)) nT0
  exact RA.wq [_] (L0 m.ts [] 0 (-1) _ rfl  hQ) nT0
theorem DeleteFunc_rest (buf : List Ms) (cs : List Int) (i : Nat) (hb : buf.length ≤ 1000000) (h : cs.length ≤ 1000000) (hs : ∀ k, cntK k cs = kidP k cs) : RF Y 109 [.own true 3 0 (buf.map Ms.c), .clo 110 [.fptr [.fro true 1 (cs.map Ic)] 0, .fptr [i64 i] 0]] (.own true 3 0 ((rest cs i buf).map Ms.c)) [.junk] := by
  have := DeleteFunc_kid buf cs i h hb
  have e : (buf.filter fun a => !decide ((cntK a.k cs : Int) = (i : Int))) = rest cs i buf := by
    refine List.filter_congr fun x _ => ?_
    rw [hs x.k]
    simp only [Int.natCast_inj]
  rw [e] at this
  exact this
end Go.Proofs.YtjjocahgbmibeaaGreat
