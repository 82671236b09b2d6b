/- Trees that change, as plain functions; how great what comes of it is, and that it is well made. -/
import Derived.Test.YtjjocahgbmibeaaW5
namespace Go.Proofs.Ytjjocahgbmibeaa
open Go.Eng
set_option linter.unusedVariables false
set_option linter.unusedSimpArgs false
structure Mn where
  ts : List Tr
  cs : List Int
  deriving Inhabited
def Mn.e (m : Mn) : List AV := [.fro false 5 (m.ts.map Tr.e), .fro true 1 (m.cs.map Ic)]
/-- As an answer. -/
def Mn.o (m : Mn) : AV := .agg [.own false 5 0 (m.ts.map Tr.e), .own true 1 0 (m.cs.map Ic)]
instance {n mem} (m : Mn) : ImpC n m.e mem m.e mem n := ⟨[], rfl, rfl⟩
def leafT (ps : List Pr) : Tr := .mk true ps [] [] []
def nodeT (cs : List Int) (ks : List Tr) (bs : List Ms) : Tr := .mk false [] cs ks bs
def mine (cs : List Int) (i : Nat) (buf : List Ms) : List Ms := buf.filter fun m => decide (kidP m.k cs = i)
def rest (cs : List Int) (i : Nat) (buf : List Ms) : List Ms := buf.filter fun m => !decide (kidP m.k cs = i)
def mostGo (cs : List Int) (buf : List Ms) : Nat → Nat → Nat → Int → Nat
  | 0, _, best, _ => best
  | n + 1, i, best, mo => if ((mine cs i buf).length : Int) > mo then mostGo cs buf n (i + 1) i (mine cs i buf).length else mostGo cs buf n (i + 1) best mo
def most (m : Mn) (buf : List Ms) : Nat := mostGo m.cs buf m.ts.length 0 0 (-1)
def putM (m : Mn) (i : Nat) (x : Mn) : Mn := ⟨m.ts.take i ++ x.ts ++ m.ts.drop (i + 1), m.cs.take i ++ x.cs ++ m.cs.drop i⟩
def many (n : Nat) : Nat := if n = 3 then 3 else 2
/-- Parents of two each, three in the last one where there is one left; c is the cut ahead. -/
def packL : Nat → Option Int → List Tr → List Int → Mn
  | 0, _, _, _ => ⟨[], []⟩
  | f + 1, c, ts, cs => if ts.length = 0 then ⟨[], []⟩ else
      let k := many ts.length
      let r := packL f cs[k - 1]? (ts.drop k) (cs.drop k)
      ⟨nodeT (cs.take (k - 1)) (ts.take k) [] :: r.ts, c.toList ++ r.cs⟩
def pack (m : Mn) : Mn := packL m.ts.length none m.ts m.cs
def leafL : Nat → Bool → List Pr → Mn
  | 0, _, _ => ⟨[], []⟩
  | f + 1, fst, ps => if ps.length = 0 then ⟨[], []⟩ else
      let k := many ps.length
      let r := leafL f false (ps.drop k)
      ⟨leafT (ps.take k) :: r.ts, (if fst then [] else [(ps.getD 0 default).k]) ++ r.cs⟩
def leavesOf (ps : List Pr) : Mn := if ps.length ≤ 4 then ⟨[leafT ps], []⟩ else leafL ps.length true ps
/-- Side by side what comes of each. -/
def catGo (f : Nat → Tr → Mn) (cs : List Int) : List Tr → Nat → Mn
  | [], _ => ⟨[], []⟩
  | t :: ts, i => let x := f i t; let r := catGo f cs ts (i + 1); ⟨x.ts ++ r.ts, (if i = 0 then [] else [cs.getD (i - 1) 0]) ++ x.cs ++ r.cs⟩
def downF (g : Tr → List Ms → Mn) (cs : List Int) (buf : List Ms) (i : Nat) (t : Tr) : Mn := if (mine cs i buf).length > 0 then g t (mine cs i buf) else ⟨[t], []⟩
def down (g : Tr → List Ms → Mn) (m : Mn) (buf : List Ms) : Mn := catGo (downF g m.cs buf) m.cs m.ts 0
def pushGo (g : Tr → List Ms → Mn) : Nat → Mn → List Ms → Mn × List Ms
  | 0, m, buf => (m, buf)
  | f + 1, m, buf => if buf.length > 6 then
      pushGo g f (putM m (most m buf) (g (m.ts.getD (most m buf) default) (mine m.cs (most m buf) buf))) (rest m.cs (most m buf) buf)
    else (m, buf)
def fin' (g : Tr → List Ms → Mn) (p : Mn × List Ms) : Mn := if p.1.ts.length > 4 then pack (down g p.1 p.2) else ⟨[nodeT p.1.cs p.1.ts p.2], []⟩
def give : Nat → Tr → List Ms → Mn
  | 0, t, _ => ⟨[t], []⟩
  | n + 1, t, ms => if t.leaf = true then leavesOf (mapAll t.ps ms) else
      fin' (give n) (pushGo (give n) (shrink (t.bs ++ ms)).length ⟨t.ks, t.cs⟩ (shrink (t.bs ++ ms)))
def rootF : Nat → Mn → Mn
  | 0, m => m
  | f + 1, m => if m.ts.length > 4 then rootF f (pack m) else m
def rootT (m : Mn) : Tr := if m.ts.length = 1 then m.ts.getD 0 default else nodeT m.cs m.ts []
def root (m : Mn) : Tr := rootT (rootF m.ts.length m)
def inject (t : Tr) (m : Ms) : Tr := if treeOk t = true ∧ m.ok = true ∧ m.op ≠ 4 then (if treeOk (root (give (tdepth t) t [m])) = true then root (give (tdepth t) t [m]) else t) else t
def drainF (o : Mn) : Mn := if o.ts.length > 4 then pack o else ⟨[nodeT o.cs o.ts []], []⟩
def drainG : Nat → Tr → Mn
  | 0, t => ⟨[t], []⟩
  | n + 1, t => if t.leaf = true then ⟨[t], []⟩ else
      drainF (catGo (fun _ => drainG n) (down (give n) ⟨t.ks, t.cs⟩ t.bs).cs (down (give n) ⟨t.ks, t.cs⟩ t.bs).ts 0)
def drain (t : Tr) : Tr := if treeOk t = true then (if treeOk (root (drainG (tdepth t) t)) = true then root (drainG (tdepth t) t) else t) else t

/-! Well made: leaves at one depth, two kids at least. -/
def Wf : Nat → Tr → Prop
  | 0, _ => False
  | n + 1, t => (n = 0 ∧ t.leaf = true ∧ t.ps.length ≤ 4 ∧ t.cs = [] ∧ t.ks = [] ∧ t.bs = []) ∨
      (0 < n ∧ t.leaf = false ∧ t.ps = [] ∧ 2 ≤ t.ks.length ∧ t.cs.length + 1 = t.ks.length ∧ ∀ k, k ∈ t.ks → Wf n k)
def WfM (n : Nat) (m : Mn) : Prop := 0 < m.ts.length ∧ m.cs.length + 1 = m.ts.length ∧ ∀ t, t ∈ m.ts → Wf n t
mutual
/-- A measure that a message raises by two at most. -/
def Tr.w : Tr → Nat
  | .mk l ps _ ks bs => (if l then 1 else 0) + ps.length + 2 * bs.length + Tr.wL ks
def Tr.wL : List Tr → Nat
  | [] => 0
  | k :: ks => Tr.w k + Tr.wL ks
end
theorem Tr.w_eq (t : Tr) : t.w = (if t.leaf then 1 else 0) + t.ps.length + 2 * t.bs.length + Tr.wL t.ks := by cases t; rfl
theorem Tr.wL_app : ∀ a b : List Tr, Tr.wL (a ++ b) = Tr.wL a + Tr.wL b
  | [], b => by simp [Tr.wL]
  | k :: a, b => by have := Tr.wL_app a b; simp only [List.cons_append, Tr.wL]; omega
theorem Tr.wL_mem : ∀ {ks : List Tr} {k : Tr}, k ∈ ks → k.w ≤ Tr.wL ks
  | k' :: ks, k, h => by
    rcases List.mem_cons.1 h with rfl | h
    · simp [Tr.wL]
    · have := Tr.wL_mem h; simp only [Tr.wL]; omega
theorem Tr.wL_split {ts : List Tr} {i : Nat} {t : Tr} (h : ts[i]? = some t) : Tr.wL ts = Tr.wL (ts.take i) + t.w + Tr.wL (ts.drop (i + 1)) := by
  have e : ts = ts.take i ++ (t :: ts.drop (i + 1)) := by rw [← drop_at h, List.take_append_drop]
  conv => lhs; rw [e]
  rw [Tr.wL_app, Tr.wL]; omega
theorem Tr.szL_le (n : Nat) (h : ∀ t : Tr, Wf n t → t.sz + 2 ≤ 3 * t.w) : ∀ ks : List Tr, (∀ k, k ∈ ks → Wf n k) → Tr.szL ks + 2 * ks.length ≤ 3 * Tr.wL ks
  | [], _ => by simp [Tr.szL, Tr.wL]
  | k :: ks, hk => by
    have h1 := Tr.szL_le n h ks (fun k hk' => hk k (List.mem_cons_of_mem _ hk'))
    have h2 := h k (hk k List.mem_cons_self)
    simp only [Tr.szL, Tr.wL, List.length_cons]; omega
theorem Wf.sz : ∀ {n : Nat} {t : Tr}, Wf n t → t.sz + 2 ≤ 3 * t.w
  | n + 1, t, h => by
    rw [Tr.sz_eq, Tr.w_eq]
    rcases h with ⟨h0, h1, h2, h3, h4, h5⟩ | ⟨h0, h1, h2, h3, h4, h5⟩
    · simp [h1, h3, h4, h5, Tr.szL, Tr.wL]; omega
    · have := Tr.szL_le n (fun t ht => Wf.sz ht) t.ks h5
      simp [h1, h2]; omega
theorem Wf.pos {n : Nat} {t : Tr} (h : Wf n t) : 1 ≤ t.w := by have := h.sz; omega
theorem wfL_len {n : Nat} : ∀ {ts : List Tr}, (∀ k, k ∈ ts → Wf n k) → ts.length ≤ Tr.wL ts
  | [], _ => Nat.le_refl _
  | k :: ks, h => by
    have h1 := wfL_len (fun k hk => h k (List.mem_cons_of_mem _ hk))
    have h2 := (h k List.mem_cons_self).pos
    simp only [Tr.wL, List.length_cons]; omega
/-- A tree that is right is well made. -/
theorem depth_wf : ∀ (n : Nat) (t : Tr) (lo hi : Int), 0 < depth n t lo hi → Wf (depth n t lo hi) t
  | 0, _, _, _, h => by simp [depth] at h
  | n + 1, t, lo, hi, h => by
    simp only [depth] at h ⊢
    split
    · rename_i hl
      rw [if_pos hl] at h
      split
      · rename_i hk
        simp only [leafOk, Bool.and_eq_true, decide_eq_true_eq] at hk
        exact .inl ⟨rfl, hl, hk.1.1.2, List.eq_nil_of_length_eq_zero (by omega), List.eq_nil_of_length_eq_zero (by omega), List.eq_nil_of_length_eq_zero (by omega)⟩
      · rename_i hk; rw [if_neg hk] at h; omega
    · rename_i hl
      rw [if_neg hl] at h
      split
      · rename_i hk
        rw [if_pos hk] at h
        have hno := hk.1
        simp only [nodeOk, Bool.and_eq_true, decide_eq_true_eq] at hno
        have key : ∀ (ks : List Tr) (cs : List Int) (lo : Int) (acc : Option Nat), 0 < kidsD (depth n) hi ks cs lo acc → (acc = none → 0 < ks.length) → (∀ e, acc = some e → 0 < e) →
            0 < kidsD (depth n) hi ks cs lo acc - 1 ∧ (∀ e, acc = some e → kidsD (depth n) hi ks cs lo acc = e + 1) ∧ ∀ k, k ∈ ks → Wf (kidsD (depth n) hi ks cs lo acc - 1) k := by
          intro ks
          induction ks with
          | nil =>
            intro cs lo acc h0 h1 h2
            cases acc with
            | none => have := h1 rfl; simp at this
            | some e => simp only [kidsD, Option.getD_some, Nat.add_sub_cancel]; exact ⟨h2 e rfl, fun e' he => by cases he; rfl, fun k hk => by simp at hk⟩
          | cons k ks ih =>
            intro cs lo acc h0 h1 h2
            have go : ∀ (to : Int) (cs' : List Int), ¬ (depth n k lo to = 0 ∨ ∃ e, acc = some e ∧ depth n k lo to ≠ e) → 0 < kidsD (depth n) hi ks cs' to (some (depth n k lo to)) →
                0 < kidsD (depth n) hi ks cs' to (some (depth n k lo to)) - 1 ∧ (∀ e, acc = some e → kidsD (depth n) hi ks cs' to (some (depth n k lo to)) = e + 1) ∧ ∀ k', k' ∈ k :: ks → Wf (kidsD (depth n) hi ks cs' to (some (depth n k lo to)) - 1) k' := by
              intro to cs' hn h0
              have hd : 0 < depth n k lo to := Nat.pos_of_ne_zero fun q => hn (.inl q)
              obtain ⟨a1, a2, a3⟩ := ih cs' to (some (depth n k lo to)) h0 (fun q => by cases q) (fun e q => by cases q; exact hd)
              have e1 := a2 _ rfl
              refine ⟨a1, fun e he => ?_, fun k' hk' => ?_⟩
              · have e2 : depth n k lo to = e := Classical.byContradiction fun q => hn (.inr ⟨e, he, q⟩)
                rw [e1, e2]
              · rcases List.mem_cons.1 hk' with rfl | hk'
                · rw [e1, Nat.add_sub_cancel]; exact depth_wf n _ lo to hd
                · exact a3 k' hk'
            cases cs with
            | nil =>
              simp only [kidsD] at h0 ⊢
              split
              · rename_i q; rw [if_pos q] at h0; omega
              · rename_i q; rw [if_neg q] at h0; exact go hi [] q h0
            | cons c cs =>
              simp only [kidsD] at h0 ⊢
              split
              · rename_i q; rw [if_pos q] at h0; omega
              · rename_i q
                rw [if_neg q] at h0
                split
                · rename_i q'; rw [if_pos q'] at h0; omega
                · rename_i q'; rw [if_neg q'] at h0; exact go c cs q' h0
        obtain ⟨a1, _, a3⟩ := key t.ks t.cs lo none h (fun _ => by omega) (fun e q => by cases q)
        generalize kidsD (depth n) hi t.ks t.cs lo none = d at a1 a3 ⊢
        obtain ⟨d, rfl⟩ : ∃ d', d = d' + 1 := ⟨d - 1, by omega⟩
        exact .inr ⟨by omega, by simpa using hl, List.eq_nil_of_length_eq_zero (by omega), by omega, by omega, a3⟩
      · rename_i hk; rw [if_neg hk] at h; omega
theorem treeOk_wf {t : Tr} (h : treeOk t = true) : Wf (tdepth t) t ∧ 1 ≤ tdepth t ∧ tdepth t ≤ 7 := by
  have h := of_decide_eq_true h
  exact ⟨depth_wf 7 t 0 1000 h, h, depth_le 7 t 0 1000⟩

/-! What comes of it is well made, and no greater than told. -/
theorem mine_rest (cs : List Int) (i : Nat) : ∀ buf : List Ms, (mine cs i buf).length + (rest cs i buf).length = buf.length
  | [] => rfl
  | m :: buf => by
    have := mine_rest cs i buf
    simp only [mine, rest, List.filter_cons] at *
    by_cases h : kidP m.k cs = i <;> simp [h] at * <;> omega
theorem mostGo_lt (cs : List Int) (buf : List Ms) : ∀ (n i best : Nat) (mo : Int), best < i + n → mostGo cs buf n i best mo < i + n
  | 0, i, best, mo, h => h
  | n + 1, i, best, mo, h => by
    simp only [mostGo]
    split
    · have := mostGo_lt cs buf n (i + 1) i (mine cs i buf).length (by omega); omega
    · have := mostGo_lt cs buf n (i + 1) best mo (by omega); omega
theorem most_lt {m : Mn} {buf : List Ms} (h : 0 < m.ts.length) : most m buf < m.ts.length := by
  have := mostGo_lt m.cs buf m.ts.length 0 0 (-1) (by omega)
  unfold most; omega
theorem mostGo_max (cs : List Int) (buf : List Ms) : ∀ (n i best : Nat) (mo : Int), (mo = -1 ∨ mo = (mine cs best buf).length) →
    (mo ≤ (mine cs (mostGo cs buf n i best mo) buf).length ∨ n = 0 ∧ mo = -1) ∧ ∀ j, i ≤ j → j < i + n → (mine cs j buf).length ≤ (mine cs (mostGo cs buf n i best mo) buf).length
  | 0, i, best, mo, h => ⟨by simp only [mostGo]; omega, fun j h1 h2 => by omega⟩
  | n + 1, i, best, mo, h => by
    simp only [mostGo]
    split
    · rename_i hgt
      obtain ⟨a1, a2⟩ := mostGo_max cs buf n (i + 1) i (mine cs i buf).length (.inr rfl)
      have a1 : ((mine cs i buf).length : Int) ≤ (mine cs (mostGo cs buf n (i + 1) i (mine cs i buf).length) buf).length := by omega
      refine ⟨.inl (by omega), fun j h1 h2 => ?_⟩
      by_cases hj : j = i
      · subst hj; omega
      · exact a2 j (by omega) (by omega)
    · rename_i hgt
      have hmo : mo = (mine cs best buf).length := by omega
      obtain ⟨a1, a2⟩ := mostGo_max cs buf n (i + 1) best mo h
      have a1 : mo ≤ (mine cs (mostGo cs buf n (i + 1) best mo) buf).length := by omega
      refine ⟨.inl a1, fun j h1 h2 => ?_⟩
      by_cases hj : j = i
      · subst hj; omega
      · exact a2 j (by omega) (by omega)
theorem most_pos {m : Mn} {buf : List Ms} (h : m.cs.length + 1 = m.ts.length) (hb : 0 < buf.length) : 0 < (mine m.cs (most m buf) buf).length := by
  obtain ⟨_, a2⟩ := mostGo_max m.cs buf m.ts.length 0 0 (-1) (.inl rfl)
  match buf, hb with
  | x :: buf, _ =>
    have h1 := kidP_le x.k m.cs
    have h2 := a2 (kidP x.k m.cs) (Nat.zero_le _) (by omega)
    have h3 : 0 < (mine m.cs (kidP x.k m.cs) (x :: buf)).length := by simp [mine]
    exact Nat.lt_of_lt_of_le h3 h2
theorem putM_wf {n : Nat} {m x : Mn} {i : Nat} (hm : WfM n m) (hi : i < m.ts.length) (hx : WfM n x) : WfM n (putM m i x) := by
  obtain ⟨a1, a2, a3⟩ := hm
  obtain ⟨b1, b2, b3⟩ := hx
  refine ⟨by simp [putM]; omega, by simp [putM]; omega, fun t ht => ?_⟩
  simp only [putM, List.mem_append] at ht
  rcases ht with (ht | ht) | ht
  · exact a3 t (List.mem_of_mem_take ht)
  · exact b3 t ht
  · exact a3 t (List.mem_of_mem_drop ht)
theorem many_ok {n : Nat} (h0 : n ≠ 0) (h1 : n ≠ 1) : 2 ≤ many n ∧ many n ≤ 3 ∧ many n ≤ n ∧ n - many n ≠ 1 := by
  unfold many; split <;> omega
theorem packL_ok (n : Nat) (hn : 0 < n) : ∀ (f : Nat) (c : Option Int) (ts : List Tr) (cs : List Int), ts.length ≤ f → ts.length ≠ 1 → (0 < ts.length → cs.length + 1 = ts.length) → (∀ t, t ∈ ts → Wf n t) →
    (∀ t, t ∈ (packL f c ts cs).ts → Wf (n + 1) t) ∧ Tr.wL (packL f c ts cs).ts = Tr.wL ts ∧ (0 < ts.length → 0 < (packL f c ts cs).ts.length ∧ (packL f c ts cs).cs.length + 1 = (packL f c ts cs).ts.length + c.toList.length) ∧
    2 * (packL f c ts cs).ts.length ≤ ts.length ∧ (ts.length = 0 → (packL f c ts cs).cs.length = 0)
  | 0, c, ts, cs, hf, h1, h2, h3 => by
    have : ts = [] := List.eq_nil_of_length_eq_zero (by omega)
    subst this; simp [packL]
  | f + 1, c, ts, cs, hf, h1, h2, h3 => by
    by_cases h0 : ts.length = 0
    · have : ts = [] := List.eq_nil_of_length_eq_zero h0
      subst this; simp [packL]
    · obtain ⟨k1, k2, k3, k4⟩ := many_ok h0 h1
      have hc := h2 (by omega)
      simp only [packL, if_neg h0]
      generalize hk : many ts.length = k at *
      obtain ⟨a1, a2, a3, a4, a5⟩ := packL_ok n hn f cs[k - 1]? (ts.drop k) (cs.drop k) (by simp; omega) (by simp; omega) (by simp; omega) (fun t ht => h3 t (List.mem_of_mem_drop ht))
      have hw : Tr.wL ts = Tr.wL (ts.take k) + Tr.wL (ts.drop k) := by rw [← Tr.wL_app, List.take_append_drop]
      refine ⟨fun t ht => ?_, ?_, fun _ => ⟨by simp, ?_⟩, ?_, fun q => absurd q h0⟩
      · rcases List.mem_cons.1 ht with rfl | ht
        · exact .inr ⟨hn, rfl, rfl, by simp [nodeT, Tr.ks]; omega, by simp [nodeT, Tr.ks, Tr.cs]; omega, fun k' hk' => h3 k' (List.mem_of_mem_take hk')⟩
        · exact a1 t ht
      · simp only [Tr.wL]
        rw [Tr.w_eq, a2, hw]; simp [nodeT, Tr.leaf, Tr.ps, Tr.bs, Tr.ks]
      · simp only [List.length_append, List.length_cons]
        by_cases hz : k < ts.length
        · obtain ⟨_, b2⟩ := a3 (by simp; omega)
          have : cs[k - 1]? = some cs[k - 1] := List.getElem?_eq_getElem (by omega)
          rw [this] at b2 ⊢
          simp at b2; omega
        · have hz' : (ts.drop k).length = 0 := by simp; omega
          have := a5 hz'
          have e4 : (packL f cs[k - 1]? (ts.drop k) (cs.drop k)).ts.length = 0 := by omega
          omega
      · simp only [List.length_cons]
        simp only [List.length_drop] at a4
        omega
theorem pack_wf {n : Nat} {m : Mn} (hn : 0 < n) (h : WfM n m) (h2 : 2 ≤ m.ts.length) : WfM (n + 1) (pack m) ∧ Tr.wL (pack m).ts = Tr.wL m.ts ∧ 2 * (pack m).ts.length ≤ m.ts.length := by
  obtain ⟨a1, a2, a3, a4, _⟩ := packL_ok n hn m.ts.length none m.ts m.cs (Nat.le_refl _) (by omega) (fun _ => h.2.1) h.2.2
  obtain ⟨b1, b2⟩ := a3 h.1
  exact ⟨⟨b1, by unfold pack; simpa using b2, a1⟩, a2, a4⟩
theorem leafL_ok : ∀ (f : Nat) (b : Bool) (ps : List Pr), ps.length ≤ f → ps.length ≠ 1 → (∀ t, t ∈ (leafL f b ps).ts → Wf 1 t) ∧ Tr.wL (leafL f b ps).ts = (leafL f b ps).ts.length + ps.length ∧
    (0 < ps.length → 0 < (leafL f b ps).ts.length ∧ (leafL f b ps).cs.length + 1 = (leafL f b ps).ts.length + (if b then 0 else 1)) ∧ 2 * (leafL f b ps).ts.length ≤ ps.length ∧ (ps.length = 0 → (leafL f b ps).cs.length = 0)
  | 0, b, ps, hf, h1 => by
    have : ps = [] := List.eq_nil_of_length_eq_zero (by omega)
    subst this; simp [leafL, Tr.wL]
  | f + 1, b, ps, hf, h1 => by
    by_cases h0 : ps.length = 0
    · have : ps = [] := List.eq_nil_of_length_eq_zero h0
      subst this; simp [leafL, Tr.wL]
    · obtain ⟨k1, k2, k3, k4⟩ := many_ok h0 h1
      simp only [leafL, if_neg h0]
      generalize hk : many ps.length = k at *
      obtain ⟨a1, a2, a3, a4, a5⟩ := leafL_ok f false (ps.drop k) (by simp; omega) (by simp; omega)
      refine ⟨fun t ht => ?_, ?_, fun _ => ⟨by simp, ?_⟩, ?_, fun q => absurd q h0⟩
      · rcases List.mem_cons.1 ht with rfl | ht
        · exact .inl ⟨rfl, rfl, by simp [leafT, Tr.ps]; omega, rfl, rfl, rfl⟩
        · exact a1 t ht
      · simp only [Tr.wL, List.length_cons]
        rw [Tr.w_eq, a2]; simp [leafT, Tr.leaf, Tr.ps, Tr.bs, Tr.ks, Tr.wL]; omega
      · simp only [List.length_append, List.length_cons]
        by_cases hz : k < ps.length
        · obtain ⟨_, b2⟩ := a3 (by simp; omega)
          cases b <;> simp at b2 ⊢ <;> omega
        · have hz' : (ps.drop k).length = 0 := by simp; omega
          have := a5 hz'
          have e4 : (leafL f false (ps.drop k)).ts.length = 0 := by omega
          cases b <;> simp <;> omega
      · simp only [List.length_cons]
        simp only [List.length_drop] at a4
        omega
theorem leaves_wf {ps : List Pr} {p k : Nat} (hp : p ≤ 4) (h : ps.length ≤ p + k) : WfM 1 (leavesOf ps) ∧ Tr.wL (leavesOf ps).ts ≤ 1 + p + 2 * k := by
  unfold leavesOf
  split
  · rename_i h4
    refine ⟨⟨by simp, by simp, fun t ht => ?_⟩, ?_⟩
    · simp only [List.mem_singleton] at ht
      subst ht
      exact .inl ⟨rfl, rfl, h4, rfl, rfl, rfl⟩
    · simp only [Tr.wL]; rw [Tr.w_eq]; simp [leafT, Tr.leaf, Tr.ps, Tr.bs, Tr.ks, Tr.wL]; omega
  · rename_i h4
    obtain ⟨a1, a2, a3, a4, _⟩ := leafL_ok ps.length true ps (Nat.le_refl _) (by omega)
    obtain ⟨b1, b2⟩ := a3 (by omega)
    exact ⟨⟨b1, by simpa using b2, a1⟩, by omega⟩
theorem catGo_ok (n : Nat) (f : Nat → Tr → Mn) (wt : Nat → Nat) (cs : List Int) : ∀ (ts : List Tr) (i : Nat), (∀ (j : Nat) (t : Tr), t ∈ ts → Wf n t → WfM n (f j t) ∧ Tr.wL (f j t).ts ≤ t.w + wt j) → (∀ t, t ∈ ts → Wf n t) →
    (∀ t, t ∈ (catGo f cs ts i).ts → Wf n t) ∧ Tr.wL (catGo f cs ts i).ts ≤ Tr.wL ts + ((List.range' i ts.length).map wt).sum ∧ (0 < ts.length → 0 < (catGo f cs ts i).ts.length ∧ (catGo f cs ts i).cs.length + 1 = (catGo f cs ts i).ts.length + (if i = 0 then 0 else 1)) ∧
    (ts.length = 0 → (catGo f cs ts i).cs.length = 0 ∧ (catGo f cs ts i).ts.length = 0) ∧ ts.length ≤ (catGo f cs ts i).ts.length
  | [], i, _, _ => by simp [catGo, Tr.wL]
  | t :: ts, i, hf, ht => by
    obtain ⟨⟨b1, b2, b3⟩, b4⟩ := hf i t List.mem_cons_self (ht t List.mem_cons_self)
    obtain ⟨a1, a2, a3, a4, a5⟩ := catGo_ok n f wt cs ts (i + 1) (fun j t ht' => hf j t (List.mem_cons_of_mem _ ht')) (fun t ht' => ht t (List.mem_cons_of_mem _ ht'))
    simp only [catGo]
    refine ⟨fun t' ht' => ?_, ?_, fun _ => ⟨by simp; omega, ?_⟩, fun q => by simp at q, by simp; omega⟩
    · rcases List.mem_append.1 ht' with h | h
      · exact b3 t' h
      · exact a1 t' h
    · rw [Tr.wL_app, Tr.wL]
      simp only [List.length_cons, List.range'_succ, List.map_cons, List.sum_cons]
      omega
    · simp only [List.length_append]
      by_cases hz : 0 < ts.length
      · obtain ⟨_, c2⟩ := a3 hz
        simp at c2
        split <;> simp <;> omega
      · obtain ⟨c1, c2⟩ := a4 (by omega)
        split <;> simp <;> omega
theorem sum_mine (cs : List Int) : ∀ (n : Nat) (buf : List Ms), ((List.range' 0 n).map fun i => 2 * (mine cs i buf).length).sum ≤ 2 * buf.length := by
  intro n buf
  have h1 : ∀ (m i : Nat), ((List.range' i m).map fun j => 2 * (mine cs j buf).length).sum ≤ 2 * (buf.filter fun x => decide (i ≤ kidP x.k cs)).length := by
    intro m
    induction m with
    | zero => intro i; simp
    | succ m ih =>
      intro i
      simp only [List.range'_succ, List.map_cons, List.sum_cons]
      have := ih (i + 1)
      have key : ∀ b : List Ms, (mine cs i b).length + (b.filter fun x => decide (i + 1 ≤ kidP x.k cs)).length ≤ (b.filter fun x => decide (i ≤ kidP x.k cs)).length := by
        intro b
        induction b with
        | nil => simp [mine]
        | cons x b ihb =>
          simp only [mine, List.filter_cons] at *
          by_cases q1 : kidP x.k cs = i
          · have : ¬ i + 1 ≤ kidP x.k cs := by omega
            have q2 : i ≤ kidP x.k cs := by omega
            simp [q1, show ¬ i + 1 ≤ i by omega] at *; omega
          · by_cases q2 : i + 1 ≤ kidP x.k cs
            · have : i ≤ kidP x.k cs := by omega
              simp [q1, q2, this] at *; omega
            · have : ¬ i ≤ kidP x.k cs := by omega
              simp [q1, q2, this] at *; omega
      have := key buf
      omega
  have := h1 n 0
  have h2 := List.length_filter_le (fun x : Ms => decide (0 ≤ kidP x.k cs)) buf
  omega
theorem down_wf {n : Nat} {g : Tr → List Ms → Mn} (hg : ∀ t ms, Wf n t → WfM n (g t ms) ∧ Tr.wL (g t ms).ts ≤ t.w + 2 * ms.length) {m : Mn} (hm : WfM n m) (buf : List Ms) :
    WfM n (down g m buf) ∧ Tr.wL (down g m buf).ts ≤ Tr.wL m.ts + 2 * buf.length ∧ m.ts.length ≤ (down g m buf).ts.length := by
  obtain ⟨a1, a2, a3, a4, a5⟩ := catGo_ok n (downF g m.cs buf) (fun i => 2 * (mine m.cs i buf).length) m.cs m.ts 0 (fun j t _ ht => by
    unfold downF
    split
    · exact hg t _ ht
    · refine ⟨⟨by simp, by simp, fun t' ht' => ?_⟩, by simp [Tr.wL]⟩
      simp only [List.mem_singleton] at ht'
      subst ht'; exact ht) hm.2.2
  obtain ⟨b1, b2⟩ := a3 hm.1
  have := sum_mine m.cs m.ts.length buf
  exact ⟨⟨b1, by simpa [down] using b2, a1⟩, by unfold down; omega, a5⟩
theorem pushGo_ok {n : Nat} {g : Tr → List Ms → Mn} (hg : ∀ t ms, Wf n t → WfM n (g t ms) ∧ Tr.wL (g t ms).ts ≤ t.w + 2 * ms.length) : ∀ (f : Nat) (m : Mn) (buf : List Ms), WfM n m →
    WfM n (pushGo g f m buf).1 ∧ Tr.wL (pushGo g f m buf).1.ts + 2 * (pushGo g f m buf).2.length ≤ Tr.wL m.ts + 2 * buf.length ∧ m.ts.length ≤ (pushGo g f m buf).1.ts.length
  | 0, m, buf, h => ⟨h, Nat.le_refl _, Nat.le_refl _⟩
  | f + 1, m, buf, h => by
    simp only [pushGo]
    split
    · have hl := most_lt (m := m) (buf := buf) h.1
      have hi : m.ts[most m buf]? = some (m.ts.getD (most m buf) default) := by simp [List.getElem?_eq_getElem hl]
      obtain ⟨b1, b2⟩ := hg _ (mine m.cs (most m buf) buf) (h.2.2 _ (List.mem_of_getElem? hi))
      have hp := putM_wf h hl b1
      obtain ⟨a1, a2, a3⟩ := pushGo_ok hg f _ (rest m.cs (most m buf) buf) hp
      have h1 := Tr.wL_split hi
      have h2 := mine_rest m.cs (most m buf) buf
      have h3 : Tr.wL (putM m (most m buf) (g (m.ts.getD (most m buf) default) (mine m.cs (most m buf) buf))).ts = Tr.wL (m.ts.take (most m buf)) + Tr.wL (g (m.ts.getD (most m buf) default) (mine m.cs (most m buf) buf)).ts + Tr.wL (m.ts.drop (most m buf + 1)) := by
        simp only [putM]; rw [Tr.wL_app, Tr.wL_app]
      have h4 : m.ts.length ≤ (putM m (most m buf) (g (m.ts.getD (most m buf) default) (mine m.cs (most m buf) buf))).ts.length := by
        have := b1.1; simp [putM]; simp at this; omega
      exact ⟨a1, by omega, by omega⟩
    · exact ⟨h, Nat.le_refl _, Nat.le_refl _⟩
theorem shGo_len : ∀ (post out : List Ms), (shGo out post).length ≤ out.length + post.length
  | [], out => by simp [shGo]
  | m :: post, out => by
    simp only [shGo]
    split
    · have := shGo_len post out; simp; omega
    · split
      · have := shGo_len post (out.set (firstK m.k out 0).toNat ⟨1, m.k, clamp ((out.getD (firstK m.k out 0).toNat default).v + m.v)⟩); simp at this ⊢; omega
      · have := shGo_len post (out ++ [m]); simp at this ⊢; omega
theorem shrink_len (ms : List Ms) : (shrink ms).length ≤ ms.length := by have := shGo_len ms []; unfold shrink; simpa using this
theorem fin_wf {n : Nat} {g : Tr → List Ms → Mn} (hn : 0 < n) (hg : ∀ t ms, Wf n t → WfM n (g t ms) ∧ Tr.wL (g t ms).ts ≤ t.w + 2 * ms.length) {p : Mn × List Ms} (hm : WfM n p.1) (h2 : 2 ≤ p.1.ts.length) :
    WfM (n + 1) (fin' g p) ∧ Tr.wL (fin' g p).ts ≤ Tr.wL p.1.ts + 2 * p.2.length := by
  obtain ⟨m, buf⟩ := p
  dsimp only at hm h2 ⊢
  unfold fin'
  split
  · obtain ⟨a1, a2, a3⟩ := down_wf hg hm buf
    obtain ⟨b1, b2, _⟩ := pack_wf hn a1 (by omega)
    exact ⟨b1, by dsimp only at *; omega⟩
  · refine ⟨⟨by simp, by simp, fun t ht => ?_⟩, ?_⟩
    · simp only [List.mem_singleton] at ht
      subst ht
      exact .inr ⟨hn, rfl, rfl, h2, hm.2.1, hm.2.2⟩
    · simp only [Tr.wL]; rw [Tr.w_eq]; simp [nodeT, Tr.leaf, Tr.ps, Tr.bs, Tr.ks]; omega
theorem give_wf : ∀ (n : Nat) (t : Tr) (ms : List Ms), Wf n t → WfM n (give n t ms) ∧ Tr.wL (give n t ms).ts ≤ t.w + 2 * ms.length
  | n + 1, t, ms, h => by
    simp only [give]
    rcases h with ⟨h0, h1, h2, h3, h4, h5⟩ | ⟨h0, h1, h2, h3, h4, h5⟩
    · subst h0
      rw [if_pos h1]
      have := mapAll_len ms t.ps
      obtain ⟨a1, a2⟩ := leaves_wf h2 this
      refine ⟨a1, ?_⟩
      rw [Tr.w_eq]; simp [h1]; omega
    · rw [if_neg (by simp [h1])]
      have hm : WfM n ⟨t.ks, t.cs⟩ := ⟨by simp; omega, h4, h5⟩
      obtain ⟨a1, a2, a3⟩ := pushGo_ok (fun t ms ht => give_wf n t ms ht) (shrink (t.bs ++ ms)).length ⟨t.ks, t.cs⟩ (shrink (t.bs ++ ms)) hm
      have hs := shrink_len (t.bs ++ ms)
      obtain ⟨b1, b2⟩ := fin_wf h0 (fun t ms ht => give_wf n t ms ht) a1 (by dsimp only at a3; omega)
      refine ⟨b1, ?_⟩
      have hw := Tr.w_eq t
      simp only [h1, h2, List.length_append] at hs hw a2
      simp at hw
      dsimp only at *
      omega
theorem rootF_wf : ∀ (f n : Nat) (m : Mn), 0 < n → WfM n m → ∃ n', 0 < n' ∧ WfM n' (rootF f m) ∧ Tr.wL (rootF f m).ts = Tr.wL m.ts ∧ (m.ts.length ≤ f + 4 → (rootF f m).ts.length ≤ 4)
  | 0, n, m, hn, h => ⟨n, hn, h, rfl, fun q => q⟩
  | f + 1, n, m, hn, h => by
    simp only [rootF]
    split
    · obtain ⟨a1, a2, a3⟩ := pack_wf hn h (by omega)
      obtain ⟨n', b1, b2, b3, b4⟩ := rootF_wf f (n + 1) (pack m) (by omega) a1
      exact ⟨n', b1, b2, b3.trans a2, fun q => b4 (by omega)⟩
    · exact ⟨n, hn, h, rfl, fun _ => by omega⟩
theorem root_wf {n : Nat} {m : Mn} (hn : 0 < n) (h : WfM n m) : (∃ n', Wf n' (root m)) ∧ (root m).w = Tr.wL m.ts := by
  obtain ⟨n', b1, b2, b3, b4⟩ := rootF_wf m.ts.length n m hn h
  unfold root rootT
  generalize rootF m.ts.length m = q at *
  split
  · rename_i h1
    have hi : q.ts[0]? = some (q.ts.getD 0 default) := by simp [List.getElem?_eq_getElem (show 0 < q.ts.length by omega)]
    refine ⟨⟨n', b2.2.2 _ (List.mem_of_getElem? hi)⟩, ?_⟩
    have := Tr.wL_split hi
    rw [← b3, this]
    have e1 : q.ts.drop (0 + 1) = [] := List.drop_eq_nil_of_le (by omega)
    rw [e1]; simp [Tr.wL]
  · refine ⟨⟨n' + 1, .inr ⟨b1, rfl, rfl, ?_, b2.2.1, b2.2.2⟩⟩, ?_⟩
    · have := b2.1; simp only [nodeT, Tr.ks]; omega
    · rw [Tr.w_eq]; simp [nodeT, Tr.leaf, Tr.ps, Tr.bs, Tr.ks, b3]
theorem drainF_wf {n : Nat} (hn : 0 < n) {o : Mn} (hm : WfM n o) (h2 : 2 ≤ o.ts.length) : WfM (n + 1) (drainF o) ∧ Tr.wL (drainF o).ts ≤ Tr.wL o.ts := by
  unfold drainF
  split
  · obtain ⟨d1, d2, _⟩ := pack_wf hn hm (by omega)
    exact ⟨d1, by omega⟩
  · refine ⟨⟨by simp, by simp, fun t' ht => ?_⟩, ?_⟩
    · simp only [List.mem_singleton] at ht
      subst ht
      exact .inr ⟨hn, rfl, rfl, h2, hm.2.1, hm.2.2⟩
    · simp only [Tr.wL]; rw [Tr.w_eq]; simp [nodeT, Tr.leaf, Tr.ps, Tr.bs, Tr.ks]
theorem drainG_wf : ∀ (n : Nat) (t : Tr), Wf n t → WfM n (drainG n t) ∧ Tr.wL (drainG n t).ts ≤ t.w
  | n + 1, t, h => by
    simp only [drainG]
    have h' := h
    rcases h with ⟨h0, h1, h2, h3, h4, h5⟩ | ⟨h0, h1, h2, h3, h4, h5⟩
    · rw [if_pos h1]
      refine ⟨⟨by simp, by simp, fun t' ht => ?_⟩, by simp [Tr.wL]⟩
      simp only [List.mem_singleton] at ht
      subst ht; exact h'
    · rw [if_neg (by simp [h1])]
      obtain ⟨a1, a2, a3⟩ := down_wf (fun t ms ht => give_wf n t ms ht) (m := ⟨t.ks, t.cs⟩) ⟨by simp; omega, h4, h5⟩ t.bs
      obtain ⟨b1, b2, b3, b4, b5⟩ := catGo_ok n (fun _ => drainG n) (fun _ => 0) (down (give n) ⟨t.ks, t.cs⟩ t.bs).cs (down (give n) ⟨t.ks, t.cs⟩ t.bs).ts 0 (fun j t _ ht => by simpa using drainG_wf n t ht) a1.2.2
      obtain ⟨c1, c2⟩ := b3 a1.1
      have hz : ((List.range' 0 (down (give n) ⟨t.ks, t.cs⟩ t.bs).ts.length).map fun _ => 0).sum = 0 := by
        generalize List.range' 0 _ = l
        induction l with
        | nil => rfl
        | cons a l ih => simp [ih]
      rw [hz] at b2
      have hw := Tr.w_eq t
      simp only [h1, h2] at hw
      simp at hw
      have hm : WfM n (catGo (fun _ => drainG n) (down (give n) ⟨t.ks, t.cs⟩ t.bs).cs (down (give n) ⟨t.ks, t.cs⟩ t.bs).ts 0) := ⟨c1, by simpa using c2, b1⟩
      obtain ⟨d1, d2⟩ := drainF_wf h0 hm (by dsimp only at a3; omega)
      exact ⟨d1, by dsimp only at *; omega⟩
end Go.Proofs.Ytjjocahgbmibeaa

set_option linter.unusedVariables false
set_option linter.unusedSimpArgs false
namespace Go.Proofs.Ytjjocahgbmibeaa
open Go.Eng
theorem packL_fuel : ∀ (f f' : Nat) (c : Option Int) (ts : List Tr) (cs : List Int), ts.length ≤ f → ts.length ≤ f' → packL f c ts cs = packL f' c ts cs
  | 0, 0, c, ts, cs, _, _ => rfl
  | 0, f' + 1, c, ts, cs, h, _ => by simp [packL, show ts.length = 0 by omega]
  | f + 1, 0, c, ts, cs, _, h => by simp [packL, show ts.length = 0 by omega]
  | f + 1, f' + 1, c, ts, cs, h, h' => by
    simp only [packL]
    split
    · rfl
    · rename_i h0
      have hk : 2 ≤ many ts.length := by unfold many; split <;> omega
      rw [packL_fuel f f' _ (ts.drop (many ts.length)) _ (by simp; omega) (by simp; omega)]
def cutAt (m : Mn) (i : Nat) : Option Int := if i = 0 then none else m.cs[i - 1]?
def packAt (m : Mn) (i : Nat) : Mn := packL (m.ts.length - i) (cutAt m i) (m.ts.drop i) (m.cs.drop i)
theorem packAt_end {m : Mn} {i : Nat} (h : ¬ i < m.ts.length) : packAt m i = ⟨[], []⟩ := by
  unfold packAt; rw [show m.ts.length - i = 0 by omega]; rfl
theorem packAt_step {m : Mn} {i k : Nat} (h : i < m.ts.length) (hk : many (m.ts.length - i) = k) :
    packAt m i = ⟨nodeT ((m.cs.drop i).take (k - 1)) ((m.ts.drop i).take k) [] :: (packAt m (i + k)).ts, (cutAt m i).toList ++ (packAt m (i + k)).cs⟩ := by
  have hk2 : 2 ≤ k := by rw [← hk]; unfold many; split <;> omega
  unfold packAt
  rw [packL_fuel _ (m.ts.length - i - 1 + 1) _ _ _ (by simp) (by simp; omega)]
  simp only [packL, List.length_drop, if_neg (show ¬ m.ts.length - i = 0 by omega), hk, List.drop_drop]
  have e1 : (m.cs.drop i)[k - 1]? = cutAt m (i + k) := by
    unfold cutAt; rw [if_neg (by omega), List.getElem?_drop]; congr 1; omega
  rw [e1, packL_fuel _ (m.ts.length - (i + k)) _ _ _ (by simp; omega) (by simp)]
theorem leafL_fuel : ∀ (f f' : Nat) (b : Bool) (ps : List Pr), ps.length ≤ f → ps.length ≤ f' → leafL f b ps = leafL f' b ps
  | 0, 0, b, ps, _, _ => rfl
  | 0, f' + 1, b, ps, h, _ => by simp [leafL, show ps.length = 0 by omega]
  | f + 1, 0, b, ps, _, h => by simp [leafL, show ps.length = 0 by omega]
  | f + 1, f' + 1, b, ps, h, h' => by
    simp only [leafL]
    split
    · rfl
    · rename_i h0
      have hk : 2 ≤ many ps.length := by unfold many; split <;> omega
      rw [leafL_fuel f f' _ (ps.drop (many ps.length)) (by simp; omega) (by simp; omega)]
def leafAt (ps : List Pr) (i : Nat) : Mn := leafL (ps.length - i) (decide (i = 0)) (ps.drop i)
theorem leafAt_end {ps : List Pr} {i : Nat} (h : ¬ i < ps.length) : leafAt ps i = ⟨[], []⟩ := by
  unfold leafAt; rw [show ps.length - i = 0 by omega]; rfl
theorem leafAt_step {ps : List Pr} {i k : Nat} {a : Pr} (h : ps[i]? = some a) (hk : many (ps.length - i) = k) :
    leafAt ps i = ⟨leafT ((ps.drop i).take k) :: (leafAt ps (i + k)).ts, (if i = 0 then [] else [a.k]) ++ (leafAt ps (i + k)).cs⟩ := by
  have hi := (List.getElem?_eq_some_iff.1 h).1
  have hk2 : 2 ≤ k := by rw [← hk]; unfold many; split <;> omega
  unfold leafAt
  rw [leafL_fuel _ (ps.length - i - 1 + 1) _ _ (by simp) (by simp; omega)]
  have e2 : (ps.drop i).getD 0 default = a := by rw [drop_at h]; rfl
  simp only [leafL, List.length_drop, if_neg (show ¬ ps.length - i = 0 by omega), hk, List.drop_drop, e2]
  rw [leafL_fuel _ (ps.length - (i + k)) _ _ (by simp; omega) (by simp), show decide (i + k = 0) = false by simp; omega]
  by_cases h0 : i = 0 <;> simp [h0]
end Go.Proofs.Ytjjocahgbmibeaa
namespace Go.Eng
/-! Told less exactly. -/
theorem LeF.rx {fl fl' : Bool} {es : Nat} {xs : List (List AV)} {β : Type} {l l' : List β} {f : β → List AV} [h : Rw xs l f] (hf : fl' = true → fl = true) (he : l = l') : LeF (.fro fl es xs) (.fro fl' es (l'.map f)) := he ▸ .rw hf
theorem LeB.ox {fl fl' : Bool} {es mc : Nat} {xs ys : List (List AV)} (he : xs = ys) (hf : fl' = true → fl = true) : LeB (.own fl es mc xs) (.own fl' es 0 ys) := by
  subst he
  refine .own hf (Nat.zero_le _) rfl (fun i x y hx hy => by rw [hx] at hy; obtain rfl := Option.some.inj hy; rfl) (fun i x y j u v hx hy hu hv => ?_)
  rw [hx] at hy; obtain rfl := Option.some.inj hy
  rw [hu] at hv; obtain rfl := Option.some.inj hv
  exact .refl
theorem LeF.snoc {fl fl' : Bool} {es : Nat} {xs : List (List AV)} {x : List AV} {β : Type} {l : List β} {f : β → List AV} {a : β} [h : Rw xs l f] (hf : fl' = true → fl = true) (hl : x.length = (f a).length) (hx : ∀ (i : Nat) u v, x[i]? = some u → (f a)[i]? = some v → LeF u v) : LeF (.fro fl es (xs ++ [x])) (.fro fl' es ((l ++ [a]).map f)) := by
  rw [h.eq]
  have key : ∀ (i : Nat) p q, (l.map f ++ [x])[i]? = some p → ((l ++ [a]).map f)[i]? = some q → p = q ∨ p = x ∧ q = f a := by
    intro i p q hp hq
    rw [List.map_append] at hq
    by_cases hi : i < (l.map f).length
    · rw [List.getElem?_append_left hi] at hp hq
      rw [hp] at hq; exact .inl (Option.some.inj hq)
    · rw [List.getElem?_append_right (by omega)] at hp hq
      cases hj : i - (l.map f).length with
      | zero => rw [hj] at hp hq; exact .inr ⟨(Option.some.inj hp).symm, (Option.some.inj hq).symm⟩
      | succ j => rw [hj] at hp; simp at hp
  refine .fro hf (by simp) (fun i p q hp hq => ?_) (fun i p q j u v hp hq hu hv => ?_)
  · rcases key i p q hp hq with rfl | ⟨rfl, rfl⟩
    · rfl
    · exact hl
  · rcases key i p q hp hq with rfl | ⟨rfl, rfl⟩
    · rw [hu] at hv; obtain rfl := Option.some.inj hv; exact .refl
    · exact hx j u v hu hv
theorem LeB.ofF {fl fl' : Bool} {es mc mc' : Nat} {xs ys : List (List AV)} (h : LeF (.fro fl es xs) (.fro fl' es ys)) (hm : mc' ≤ mc) : LeB (.own fl es mc xs) (.own fl' es mc' ys) := by
  cases h with
  | refl =>
    refine .own id (Nat.le_trans hm (Nat.le_max_left _ _)) rfl (fun i x y hx hy => by rw [hx] at hy; obtain rfl := Option.some.inj hy; rfl) (fun i x y j u v hx hy hu hv => ?_)
    rw [hx] at hy; obtain rfl := Option.some.inj hy
    rw [hu] at hv; obtain rfl := Option.some.inj hv
    exact .refl
  | fro hf hl hr h => exact .own hf (Nat.le_trans hm (Nat.le_max_left _ _)) hl hr h
theorem LeB.one {fl fl' : Bool} {es mc : Nat} {x : List AV} {β : Type} {f : β → List AV} {a : β} (hf : fl' = true → fl = true) (hl : x.length = (f a).length) (hx : ∀ (i : Nat) u v, x[i]? = some u → (f a)[i]? = some v → LeF u v) : LeB (.own fl es mc [x]) (.own fl' es 0 [f a]) :=
  have h : Rw ([] : List (List AV)) ([] : List β) f := ⟨rfl⟩
  .ofF (LeF.snoc (xs := []) (l := []) hf hl hx) (Nat.zero_le _)
theorem LeM.s {q : List Nat} {m : Mem} {rest : List (Nat × AObj)} {k id es mc : Nat} {fl fl' : Bool} {xs : List (List AV)} {x : List AV} {β : Type} {l : List β} {f : β → List AV} {a : β} (h1 : q[k]? = some id) (h2 : m id = some (.row fl es mc (xs ++ [x]))) [hw : Rw xs l f] (hf : fl' = true → fl = true)
    (hl : x.length = (f a).length) (hx : ∀ (i : Nat) u v, x[i]? = some u → (f a)[i]? = some v → LeF u v) (h : LeM q m rest) : LeM q m ((k, .row fl' es 0 ((l ++ [a]).map f)) :: rest) := .c h1 h2 (.row (Nat.zero_le _) (.snoc hf hl hx)) h
theorem LeM.rx {q : List Nat} {m : Mem} {l : List (Nat × AObj)} {k id es mc : Nat} {fl fl' : Bool} {xs : List (List AV)} {β : Type} {ls ls' : List β} {f : β → List AV} (h1 : q[k]? = some id) (h2 : m id = some (.row fl es mc xs)) [hw : Rw xs ls f] (he : ls = ls') (hf : fl' = true → fl = true) (h : LeM q m l) : LeM q m ((k, .row fl' es 0 (ls'.map f)) :: l) := by subst he; exact .c h1 h2 (.rw hf) h
theorem RA.freshT {Y : EngSys} {fn : AFn} {todo : List AItem} {env : Env'} {mem : Mem'} {next id : Nat} {Q : Qst} {cs : List AV} (t c es : Nat) (hn : noOps todo = true) (he : look env t = some (.elt id 0 0)) (ht : look mem id = some (.box cs)) (hc : cs[c]? = some .emp)
    (h : RA Y fn todo env ((id, .box (cs.set c (.row next))) :: (next, .row true es 0 []) :: mem) (next + 1) Q) : RA Y fn todo env mem next Q := .freshB hn ht hc h
theorem RA.freshV {Y : EngSys} {fn : AFn} {todo : List AItem} {env : Env'} {mem : Mem'} {next : Nat} {Q : Qst} (t es : Nat) (hn : noOps todo = true) (he : look env t = some .emp)
    (h : RA Y fn todo ((t, .row next) :: env) ((next, .row true es 0 []) :: mem) (next + 1) Q) : RA Y fn todo env mem next Q := .fresh hn (by simp [E, he]) h
theorem RO.stRz {Y : EngSys} {fn : AFn} {ops rest : List AOper} {i : Nat} {k : List AItem} {env : Env'} {mem : Mem'} {next : Nat} {Q : Qst} {v : AV} {x y : AOpd} {id n j sz es mc : Nat} {fl : Bool} {xs : List (List AV)} {cs ds fs qs : List AV} {u : Ups} (h : ops = ⟨none, .st sz x y, none⟩ :: rest) (hx : x.lk env = some (.elt id n j)) (hy : y.lk env = some v) (hv : v.cells = some ds) (hd : ds.length = sz) (hm : look mem id = some (.row fl es mc xs)) (hf : fzCells (look mem) ds = some (fs, u)) (hu : u.all (fun p => !(p.1 == id)) = true) (hc : xs[n]? = some cs) (hl : j + sz ≤ cs.length) (hq : lay cs j fs = qs)
    (h' : RO Y fn rest (i + 1) k env ((u ++ [(id, .row (fl && fs.all AV.lit) es mc (xs.set n qs))] : Ups).reverse ++ mem) next Q) : RO Y fn ops i k env mem next Q :=
  RO.n (v := .junk) h (by subst hq; simp only [AOp.map, act, AOpd.lk_get hx, AOpd.lk_get hy, hv, hd, hm, hf, hc, hl, hu, Option.bind_some, if_true, and_self]) h'
theorem RD.stRz {Y : EngSys} {fn : AFn} {ops rest : List AOper} {i : Nat} {tr : List (List Nat × List Nat)} {ps : List (Nat × Nat)} {k : List AItem} {env : Env'} {mem : Mem'} {next : Nat} {Q : Qst} {v : AV} {x y : AOpd} {id n j sz es mc : Nat} {fl : Bool} {xs : List (List AV)} {cs ds fs qs : List AV} {u : Ups} (h : ops = ⟨none, .st sz x y, none⟩ :: rest) (hx : x.lk env = some (.elt id n j)) (hy : y.lk env = some v) (hv : v.cells = some ds) (hd : ds.length = sz) (hm : look mem id = some (.row fl es mc xs)) (hf : fzCells (look mem) ds = some (fs, u)) (hu : u.all (fun p => !(p.1 == id)) = true) (hc : xs[n]? = some cs) (hl : j + sz ≤ cs.length) (hq : lay cs j fs = qs)
    (h' : RD Y fn rest (i + 1) (tr ++ [(touchOf (look mem) ((AOp.st sz x y).map (AOpd.get (E env))), (u ++ [(id, .row (fl && fs.all AV.lit) es mc (xs.set n qs))] : Ups).map (·.1))]) ps k env ((u ++ [(id, .row (fl && fs.all AV.lit) es mc (xs.set n qs))] : Ups).reverse ++ mem) next Q) : RD Y fn ops i tr ps k env mem next Q :=
  RD.n (v := .junk) h (by subst hq; simp only [AOp.map, act, AOpd.lk_get hx, AOpd.lk_get hy, hv, hd, hm, hf, hc, hl, hu, Option.bind_some, if_true, and_self]) h'
theorem RFx.s0 {Y : EngSys} {f : Nat} {fn : AFn} {Q : Qst} (h : Y.Γ f = some fn) (hm : Y.md f = fn.modes) (hl : fn.modes.length = ([] : List AV).length) (h' : RA Y fn [.code fn.code] [] [] 0 Q) : RFx Y f [] Q := .start (vs := []) h hm hl h'
theorem RF.s0 {Y : EngSys} {f : Nat} {fn : AFn} {r : AV} {outs : List AV} (h : Y.Γ f = some fn) (hm : Y.md f = fn.modes) (hl : fn.modes.length = ([] : List AV).length) (h' : ∀ Q : Qst, Q r outs → RA Y fn [.code fn.code] [] [] 0 Q) : RF Y f [] r outs := .x (.s0 h hm hl (h' _ ⟨rfl, rfl⟩))
end Go.Eng
namespace Go.Proofs.Ytjjocahgbmibeaa
open Go.Eng
theorem _root_.Go.Eng.LeF.kx {fl : Bool} {xs : List (List AV)} {l l' : List Tr} [h : Rw xs l Tr.e] (he : l = l') : LeF (.fro fl 5 xs) (.fro false 5 (l'.map Tr.c)) := by rw [Tr.c_e]; exact .rx (fun h => by cases h) he
instance {n mem} (m : Mn) : ImpR n m.o mem (.agg [.row n, .row (n + 1)]) ((n + 1, .row true 1 0 (m.cs.map Ic)) :: (n, .row false 5 0 (m.ts.map Tr.e)) :: mem) (n + 1 + 1) := by unfold Mn.o; infer_instance
theorem leTr {t : Tr} {b pa ca ka ba : AV} (h0 : b = .b t.leaf) (h1 : LeF pa (.fro true 2 (t.ps.map Pr.c))) (h2 : LeF ca (.fro true 1 (t.cs.map Ic))) (h3 : LeF ka (.fro false 5 (t.ks.map Tr.c))) (h4 : LeF ba (.fro true 3 (t.bs.map Ms.c))) :
    ∀ (i : Nat) u v, [b, pa, ca, ka, ba][i]? = some u → t.e[i]? = some v → LeF u v := pairC (.of h0) (pairC h1 (pairC h2 (pairC h3 (pair1 h4))))
/-- A tree as an answer. -/
def Tr.o (t : Tr) : AV := .agg [.b t.leaf, .own true 2 0 (t.ps.map Pr.c), .own true 1 0 (t.cs.map Ic), .own false 5 0 (t.ks.map Tr.e), .own true 3 0 (t.bs.map Ms.c)]
instance {n mem} (t : Tr) : ImpR n t.o mem (.agg [.b t.leaf, .row n, .row (n + 1), .row (n + 1 + 1), .row (n + 1 + 1 + 1)]) ((n + 1 + 1 + 1, .row true 3 0 (t.bs.map Ms.c)) :: (n + 1 + 1, .row false 5 0 (t.ks.map Tr.e)) :: (n + 1, .row true 1 0 (t.cs.map Ic)) :: (n, .row true 2 0 (t.ps.map Pr.c)) :: mem) (n + 1 + 1 + 1 + 1) := by unfold Tr.o; infer_instance
instance {n mem} (t : Tr) : ImpV n t.o mem (.agg [.b t.leaf, .row n, .row (n + 1), .row (n + 1 + 1), .row (n + 1 + 1 + 1)]) ((n + 1 + 1 + 1, .row true 3 0 (t.bs.map Ms.c)) :: (n + 1 + 1, .row false 5 0 (t.ks.map Tr.e)) :: (n + 1, .row true 1 0 (t.cs.map Ic)) :: (n, .row true 2 0 (t.ps.map Pr.c)) :: mem) (n + 1 + 1 + 1 + 1) := by unfold Tr.o; infer_instance
theorem _root_.Go.Eng.LeB.trF (t : Tr) : LeB (.agg [.b t.leaf, .fro true 2 (t.ps.map Pr.c), .fro true 1 (t.cs.map Ic), .fro false 5 (t.ks.map Tr.e), .fro true 3 (t.bs.map Ms.c)]) (.agg t.e) := .agg5 .r .r .r (.fz (.kx rfl)) .r
theorem rootF_stop : ∀ {f : Nat} {m : Mn}, ¬ m.ts.length > 4 → rootF f m = m
  | 0, _, _ => rfl
  | f + 1, m, h => by rw [rootF, if_neg h]
theorem packL_ge : ∀ (f : Nat) (c : Option Int) (ts : List Tr) (cs : List Int), ts.length ≤ f → ts.length ≤ 3 * (packL f c ts cs).ts.length
  | 0, c, ts, cs, h => by omega
  | f + 1, c, ts, cs, h => by
    rw [packL]
    split
    · rename_i h0; omega
    · rename_i h0
      have h1 := packL_ge f cs[many ts.length - 1]? (ts.drop (many ts.length)) (cs.drop (many ts.length)) (by rw [List.length_drop]; unfold many; split <;> omega)
      have h2 : many ts.length ≤ 3 := by unfold many; split <;> omega
      dsimp only
      rw [List.length_drop] at h1
      rw [List.length_cons]
      omega
theorem pack_ge (m : Mn) : m.ts.length ≤ 3 * (pack m).ts.length := packL_ge _ _ _ _ (Nat.le_refl _)
end Go.Proofs.Ytjjocahgbmibeaa

namespace Go.Proofs.Ytjjocahgbmibeaa
open Go.Eng
set_option linter.unusedVariables false
set_option linter.unusedSimpArgs false
def Srt : Int → List Int → Prop
  | _, [] => True
  | lo, c :: cs => lo < c ∧ Srt c cs
end Go.Proofs.Ytjjocahgbmibeaa
