/- Drawn regions: every order that the edges allow. -/
import Derived.Test.YtjjocahgbmibeaaEngV
namespace Go.Eng
set_option linter.unusedVariables false
set_option linter.unusedSimpArgs false

theorem build_map {P : Program} {fs : Array Field} {g g' : AOpd → AV} : ∀ {ps : List (Nat × Operand)} {qs : List (Nat × Nat × AOpd)}, ps.mapM (fun p => (fs[p.1]?).bind fun f => (szOf P f.type).map fun n => (f.offset, n, opd p.2)) = some qs →
    (∀ p, p ∈ ps → g (opd p.2) = g' (opd p.2)) → (qs.map fun p => (p.1, p.2.1, g p.2.2)) = qs.map fun p => (p.1, p.2.1, g' p.2.2) := by
  intro ps
  induction ps with
  | nil => intro qs h _; simp only [List.mapM_nil, Option.pure_def, Option.some.injEq] at h; subst h; rfl
  | cons p ps ih =>
    intro qs h hg
    simp only [List.mapM_cons, Option.bind_eq_bind, Option.bind_eq_some_iff, Option.map_eq_some_iff, Option.pure_def, Option.some.injEq] at h
    obtain ⟨x, ⟨f, hf, n, hn, rfl⟩, y, hy, rfl⟩ := h
    simp only [List.map_cons]
    rw [hg p (by simp), ih hy fun q hq => hg q (by simp [hq])]
theorem opOf_map {P : Program} {o : Oper} {g g' : AOpd → AV} (hcn : g (.c .emp) = g' (.c .emp)) (h : ∀ x, x ∈ o.op.operands → g (opd x) = g' (opd x)) : (opOf P o).map g = (opOf P o).map g' := by
  have hl : ∀ (l : List Operand), (∀ x, x ∈ l → x ∈ o.op.operands) → (l.map opd).map g = (l.map opd).map g' := fun l hx => by
    rw [List.map_map, List.map_map]; exact List.map_congr_left fun x hm => h x (hx x hm)
  have ho : ∀ (l : Option Operand), (∀ x, l = some x → x ∈ o.op.operands) → (l.map opd).map g = (l.map opd).map g' := fun l hx => by
    cases l with
    | none => rfl
    | some x => simp only [Option.map_some]; rw [h x (hx x rfl)]
  cases hop : o.op with
  | build t ps =>
    simp only [opOf, hop]
    split
    · split
      · rename_i qs hq
        split
        · simp only [AOp.map]
          rw [build_map hq fun p hp => h p.2 (by rw [hop]; simp only [Op.operands, List.mem_toArray, List.mem_map]; exact ⟨p, hp, rfl⟩)]
        · rfl
      · rfl
    · rfl
  | buildSlice t n ps =>
    simp only [opOf, hop]
    split
    · split
      · simp only [AOp.map]; rw [hcn]
      split
      · simp only [AOp.map, List.map_map]
        congr 1
        refine List.map_congr_left fun p hp => ?_
        simp only [Function.comp]
        rw [h p.2 (by rw [hop]; simp only [Op.operands, List.mem_toArray, List.mem_map]; exact ⟨p, hp, rfl⟩)]
      · rfl
    · rfl
  | makeFunc fn first caps =>
    cases fn with
    | func f =>
      simp only [opOf, hop]
      split
      · simp only [AOp.map]
        rw [hl _ fun x hx => by rw [hop]; simp only [Op.operands, Array.mem_append]; exact .inr (by simpa using hx)]
      · rfl
    | _ => simp only [opOf, hop]; rfl
  | call c =>
    cases hc : c.callee with
    | value f =>
      simp only [opOf, hop, hc, AOp.map]
      rw [h f (by rw [hop]; simp [Op.operands, Call.operands, hc]), hl _ fun x hx => by rw [hop]; simp only [Op.operands, Call.operands, hc]; simp at hx ⊢; exact .inr hx]
    | invoke r n => simp only [opOf, hop, hc]; rfl
    | builtin b =>
      have hx : ∀ x, x ∈ c.args.toList → g (opd x) = g' (opd x) := fun x hx => h x (by rw [hop]; simp [Op.operands, Call.operands, hc]; simpa using hx)
      simp only [opOf, hop, hc]
      repeat' split
      all_goals (first | rfl | (rename_i hargs _ ; simp only [AOp.map]; fail) | skip)
      all_goals (simp only [AOp.map]; simp_all)
  | slice t x lo hi mx =>
    have h0 : ∀ y, y = x ∨ lo = some y ∨ hi = some y ∨ mx = some y → y ∈ o.op.operands := fun y hy => by
      rw [hop]; simp only [Op.operands, Array.mem_append]
      rcases hy with rfl | rfl | rfl | rfl <;> simp
    simp only [opOf, hop]
    repeat' split
    all_goals (first | rfl | (simp only [AOp.map]; rw [h x (h0 x (.inl rfl)), ho lo fun y hy => h0 y (.inr (.inl hy)), ho hi fun y hy => h0 y (.inr (.inr (.inl hy))), ho mx fun y hy => h0 y (.inr (.inr (.inr hy)))]))
  | _ =>
    simp only [hop, Op.operands] at h
    simp only [opOf, hop]
    (try repeat' split)
    all_goals (first | rfl | (simp only [AOp.map]; simp_all; done))

/-! The order of a region. -/
def Cl (ops : Array Oper) (D : Nat → Bool) : Prop := ∀ i o, D i = true → ops[i]? = some o → ∀ ed, ed ∈ o.after → Region.binds .any ed = true → D ed.on = true
theorem testBit_pow {n i : Nat} (h : (2 ^ n).testBit i = true) : i = n := by
  rw [Nat.testBit_two_pow] at h
  exact (by simpa using h : n = i).symm
/-- What stands before an operation whose edges are done is done. -/
theorem before_in {ops : Array Oper} {D : Nat → Bool} (hc : Cl ops D) {j : Nat} {o : Oper} (ho : ops[j]? = some o) (he : ∀ ed, ed ∈ o.after → Region.binds .any ed = true → D ed.on = true) {i : Nat} (hb : ((Region.before ops).getD j 0).testBit i = true) : D i = true := by
  have key : ∀ (rest : List Oper) (acc : Array Nat) (done : List Oper), ops.toList = done ++ rest → acc.size = done.length →
      (∀ k o, k < acc.size → ops[k]? = some o → (∀ ed, ed ∈ o.after → Region.binds .any ed = true → D ed.on = true) → ∀ i, (acc.getD k 0).testBit i = true → D i = true) →
      ∀ k o, ops[k]? = some o → (∀ ed, ed ∈ o.after → Region.binds .any ed = true → D ed.on = true) → ∀ i, ((rest.foldl (fun acc o => acc.push (o.after.foldl (fun s e => if Region.binds .any e then s ||| 2 ^ e.on ||| acc.getD e.on 0 else s) 0)) acc).getD k 0).testBit i = true → D i = true := by
    intro rest
    induction rest with
    | nil =>
      intro acc done h1 h2 hG k o hk he i hi
      refine hG k o ?_ hk he i hi
      have := (Array.getElem?_eq_some_iff.1 hk).1
      rw [h2]
      have h3 : ops.toList.length = done.length := by rw [h1]; simp
      simpa [← h3] using this
    | cons x rest ih =>
      intro acc done h1 h2 hG
      refine ih _ (done ++ [x]) (by rw [h1]; simp) (by simp [h2]) fun k o hk ho he i hi => ?_
      simp only [Array.size_push] at hk
      by_cases hk' : k < acc.size
      · refine hG k o hk' ho he i ?_
        simpa [Array.getD, hk', Nat.lt_succ_of_lt hk', Array.getElem_push_lt hk'] using hi
      · have hke : k = acc.size := by omega
        subst hke
        have hox : o = x := by
          have : ops.toList[acc.size]? = some o := by simpa using ho
          rw [h1, h2] at this
          simpa using this.symm
        subst hox
        have hv : (acc.push (o.after.foldl (fun s e => if Region.binds .any e then s ||| 2 ^ e.on ||| acc.getD e.on 0 else s) 0)).getD acc.size 0 = o.after.foldl (fun s e => if Region.binds .any e then s ||| 2 ^ e.on ||| acc.getD e.on 0 else s) 0 := by
          simp [Array.getD]
        rw [hv, ← Array.foldl_toList] at hi
        have fold : ∀ (l : List Edge) (s : Nat), (∀ ed, ed ∈ l → Region.binds .any ed = true → D ed.on = true) → (∀ i, s.testBit i = true → D i = true) →
            ∀ i, (l.foldl (fun s e => if Region.binds .any e then s ||| 2 ^ e.on ||| acc.getD e.on 0 else s) s).testBit i = true → D i = true := by
          intro l
          induction l with
          | nil => intro s _ hs i hi; exact hs i hi
          | cons ed l ih2 =>
            intro s hl hs i hi
            simp only [List.foldl_cons] at hi
            refine ih2 _ (fun e he => hl e (by simp [he])) (fun i hi => ?_) i hi
            split at hi
            · rename_i hb
              have hD := hl ed (by simp) hb
              rw [Nat.testBit_or, Nat.testBit_or, Bool.or_eq_true, Bool.or_eq_true] at hi
              rcases hi with (hi | hi) | hi
              · exact hs i hi
              · rw [testBit_pow hi]; exact hD
              · by_cases hlt : ed.on < acc.size
                · have hlo : ed.on < ops.size := by
                    have h3 : ops.toList.length = done.length + (rest.length + 1) := by rw [h1]; simp
                    simp at h3; omega
                  exact hG ed.on ops[ed.on] hlt (Array.getElem?_eq_getElem hlo) (fun e' he' hb' => hc ed.on _ hD (Array.getElem?_eq_getElem hlo) e' he' hb') i hi
                · simp [Array.getD, hlt] at hi
            · exact hs i hi
        exact fold o.after.toList 0 (fun ed he' hb => he ed (by simpa using he') hb) (fun i hi => by simp at hi) i hi
  have := key ops.toList #[] [] rfl rfl (fun k o hk => by simp at hk) j o ho he i
  unfold Region.before at hb
  rw [← Array.foldl_toList] at hb
  exact this hb

def Rec.look2 (r : Rec) : List Nat × List Nat := (r.tch, r.ups.map (·.1))
theorem keys_mg (r : Rec) : keysOf r.mg = r.ups.map (·.1) := by simp [keysOf, Rec.mg, upsM]
theorem map_turns {α β : Type} (g : α → β) (o : AOp α) : (o.map g).turns = o.turns := by cases o <;> rfl
theorem map_looks {α β : Type} (g : α → β) (o : AOp α) : (o.map g).looks = o.looks := by cases o <;> rfl
theorem Step1.quiet {P : Program} {md : Nat → List Bool} {e : Nat → AV} {m : Mem} {nid : Nat} {o : AOper} {r : Rec} (h : Step1 P md e m nid o r) :
    (o.op.turns = false → r.ups = []) ∧ (o.op.looks = false → r.tch = []) := by
  obtain ⟨_, ⟨_, hE, ht⟩ | ⟨_, _, hu, ht⟩⟩ := h
  · refine ⟨fun hq => ?_, fun hq => ?_⟩
    · cases hE with
      | act ha => exact act_turns ha (by rw [map_turns]; exact hq)
      | call ho => rw [ho] at hq; cases hq
    · rw [ht]; unfold touchOf; rw [map_looks, hq]; rfl
  · exact ⟨fun _ => hu, fun _ => ht⟩
theorem disj_spec {a b : List Nat} (h : disj a b = true) : ∀ x, x ∈ a → x ∉ b := fun x hx hb => by
  have := List.all_eq_true.1 h x hx
  simp [hb] at this
section
variable {P : Program} {md : Nat → List Bool} {C : Ctx} {B : Base} {rs : List Rec} {ops : Array Oper} {Q : Exit → Act → World → Prop}
/-- Operations that no edge orders are about different objects. -/
theorem unord_ok (hs : ∀ (k : Nat) (o : Oper) (r : Rec), ops[k]? = some o → rs[k]? = some r → ∃ e m nid, Step1 P md e m nid (operOf P ops o) r) (hn : ops.size = rs.length) (hp : okPairs (rs.map Rec.look2) (pairsOf P ops) = true)
    {i j : Nat} {x y : Rec} (hij : i < j) (hi : rs[i]? = some x) (hj : rs[j]? = some y) (hb : ((Region.before ops).getD j 0).testBit i = false) :
    ∀ id, (id ∈ keysOf x.mg → id ∉ y.tch ∧ id ∉ keysOf y.mg) ∧ (id ∈ keysOf y.mg → id ∉ x.tch) := by
  have hi1 := (List.getElem?_eq_some_iff.1 hi).1
  have hj1 := (List.getElem?_eq_some_iff.1 hj).1
  have hoi : ops[i]? = some (ops[i]'(by omega)) := Array.getElem?_eq_getElem (by omega)
  have hoj : ops[j]? = some (ops[j]'(by omega)) := Array.getElem?_eq_getElem (by omega)
  intro id
  rw [keys_mg, keys_mg]
  by_cases hc : (((opOf P (ops[i]'(by omega))).turns && ((opOf P (ops[j]'(by omega))).turns || (opOf P (ops[j]'(by omega))).looks)) || ((opOf P (ops[j]'(by omega))).turns && (opOf P (ops[i]'(by omega))).looks)) = true
  · have hmem : (i, j) ∈ pairsOf P ops := by
      unfold pairsOf
      rw [List.mem_filter]
      refine ⟨?_, by simp only [hoi, hoj]; exact hc⟩
      unfold unordered
      simp only [List.mem_flatMap, List.mem_range, List.mem_filterMap]
      exact ⟨j, by omega, i, hij, by rw [hb]; simp⟩
    have := List.all_eq_true.1 hp (i, j) hmem
    simp only [List.getElem?_map, hi, hj, Option.map_some, Rec.look2, Bool.and_eq_true] at this
    obtain ⟨⟨h1, h2⟩, h3⟩ := this
    exact ⟨fun h => ⟨disj_spec h1 id h, disj_spec h2 id h⟩, fun h => disj_spec h3 id h⟩
  · obtain ⟨e1, m1, n1, s1⟩ := hs i _ x hoi hi
    obtain ⟨e2, m2, n2, s2⟩ := hs j _ y hoj hj
    obtain ⟨a1, a2⟩ := s1.quiet
    obtain ⟨b1, b2⟩ := s2.quiet
    simp only [operOf] at a1 a2 b1 b2
    simp only [Bool.or_eq_true, Bool.and_eq_true, not_or, not_and, Bool.not_eq_true] at hc
    obtain ⟨c1, c2⟩ := hc
    refine ⟨fun h => ?_, fun h => ?_⟩
    · have ht : (opOf P (ops[i]'(by omega))).turns = true := by
        cases hq : (opOf P (ops[i]'(by omega))).turns with
        | true => rfl
        | false => rw [a1 hq] at h; simp at h
      have := c1 ht
      rw [b1 this.1, b2 this.2]; simp
    · have ht : (opOf P (ops[j]'(by omega))).turns = true := by
        cases hq : (opOf P (ops[j]'(by omega))).turns with
        | true => rfl
        | false => rw [b1 hq] at h; simp at h
      rw [a2 (c2 ht)]; simp

theorem drawOk_spec (h : drawOk ops = true) {j : Nat} {oj : Oper} (hj : ops[j]? = some oj) : (∀ ed, ed ∈ oj.after → Region.binds .any ed = true → ed.on < j) ∧
    ∀ i oi d, i ≠ j → ops[i]? = some oi → oi.dst = some d → oj.dst ≠ some d ∧ (d ∈ oj.looksAt ops → (if i < j then ((Region.before ops).getD j 0).testBit i else ((Region.before ops).getD i 0).testBit j) = true) := by
  have hj1 := (Array.getElem?_eq_some_iff.1 hj).1
  unfold drawOk at h
  have h1 := List.all_eq_true.1 h j (List.mem_range.2 hj1)
  simp only [hj, Bool.and_eq_true] at h1
  obtain ⟨h1, h2⟩ := h1
  refine ⟨fun ed he hb => ?_, fun i oi d hij hi hd => ?_⟩
  · have := List.all_eq_true.1 h1 ed (by simpa using he)
    rw [hb] at this
    simpa using this
  · have := List.all_eq_true.1 h2 i (List.mem_range.2 (Array.getElem?_eq_some_iff.1 hi).1)
    simp only [hi, hd, Bool.or_eq_true, beq_iff_eq, hij, false_or, Bool.and_eq_true, Bool.not_eq_true', beq_eq_false_iff_ne, ne_eq] at this
    refine ⟨this.1, fun hl => ?_⟩
    rcases this.2 with h3 | h3
    · simp [hl] at h3
    · exact h3
def unl (n : Nat) (l : Array Bool) : Nat := ((List.range n).filter fun i => !l.getD i true).length
theorem filter_lt {α : Type} {p q : α → Bool} : ∀ {l : List α} {x : α}, (∀ y, q y = true → p y = true) → x ∈ l → p x = true → q x = false → (l.filter q).length < (l.filter p).length := by
  intro l
  induction l with
  | nil => intro x _ h; simp at h
  | cons y l ih =>
    intro x hpq hx hp hq
    have hle : (l.filter q).length ≤ (l.filter p).length := by
      clear ih hx
      induction l with
      | nil => simp
      | cons z l ih =>
        simp only [List.filter_cons]
        split
        · rename_i hz; rw [if_pos (hpq z hz)]; simp; exact ih
        · split
          · simp; omega
          · exact ih
    simp only [List.filter_cons]
    rcases List.mem_cons.1 hx with rfl | hx
    · rw [hp, hq]; simp; omega
    · have := ih hpq hx hp hq
      split
      · rename_i hz; rw [if_pos (hpq y hz)]; simp; exact this
      · split
        · simp; omega
        · exact this
theorem rinv_all {D D' : Nat → Bool} {a : Act} {w : World} (h : RInv C B rs D a w) (hD : ∀ k, k < rs.length → D k = D' k) : RInv C B rs D' a w := by
  obtain ⟨⟨σ, F, h1, h2, h3, h4, h5⟩, h6, h7, h8⟩ := h
  have e1 : eAt D B.e 0 rs = eAt D' B.e 0 rs := funext fun x => atF_agr rfl fun k g hk _ => by
    have := (List.getElem?_eq_some_iff.1 hk).1
    simp only [Nat.zero_add]; exact hD k (by simpa using this)
  have e2 : mAt D B.m 0 rs = mAt D' B.m 0 rs := funext fun x => atF_agr rfl fun k g hk _ => by
    have := (List.getElem?_eq_some_iff.1 hk).1
    simp only [Nat.zero_add]; exact hD k (by simpa using this)
  refine ⟨⟨σ, F, e2 ▸ h1, e1 ▸ h2, h3, h4, fun id hid => ?_⟩, h6, h7, h8⟩
  rcases h5 id hid with h | ⟨k, hk, hkl, h⟩
  · exact .inl h
  · exact .inr ⟨k, by rw [← hD k hkl]; exact hk, hkl, h⟩
theorem drawn_ok (hn : ops.size = rs.length) (hs : ∀ (k : Nat) (o : Oper) (r : Rec), ops[k]? = some o → rs[k]? = some r → Step1 P md (eAt (fun q => decide (q < k)) B.e 0 rs) (mAt (fun q => decide (q < k)) B.m 0 rs) (B.next + 16 * k) (operOf P ops o) r)
    (hf : regOk B.size B.ps ops true = true) (hp : okPairs (rs.map Rec.look2) (pairsOf P ops) = true) (hQ : ∀ a' w', RInv C B rs (fun q => decide (q < rs.length)) a' w' → Q .normal a' w') :
    ∀ (fuel : Nat) (l : Array Bool) (a : Act) (w : World), l.size = ops.size → unl ops.size l ≤ fuel → Cl ops (fun i => l.getD i false) → RInv C B rs (fun i => l.getD i false) a w → wpAny P .any ops Q fuel l a w := by
  simp only [regOk, Bool.not_true, Bool.false_or, Bool.and_eq_true] at hf
  obtain ⟨hf, hdr⟩ := hf
  have hgd : ∀ (l : Array Bool) i, l.size = ops.size → i < ops.size → l.getD i true = l.getD i false := fun l i hl hi => by simp [Array.getD, hl, hi]
  have hend : ∀ (l : Array Bool) a w, l.size = ops.size → (∀ i, i < ops.size → l.getD i false = true) → RInv C B rs (fun i => l.getD i false) a w → Q .normal a w := fun l a w hl ha h =>
    hQ a w (rinv_all h fun k hk => by rw [ha k (by omega)]; simp [hk])
  -- what is not done has one that is ready
  have hprog : ∀ (l : Array Bool), l.size = ops.size → Region.ready .any ops l = [] → ∀ i, i < ops.size → l.getD i false = true := by
    intro l hl hr i
    induction i using Nat.strongRecOn with
    | _ i ih =>
      intro hi
      cases hd : l.getD i false with
      | true => rfl
      | false =>
        have : i ∈ Region.ready .any ops l := mem_ready.2 ⟨by rw [hgd l i hl hi]; exact hd, ops[i], Array.getElem?_eq_getElem hi, fun e he hb => by
          have := (drawOk_spec hdr (Array.getElem?_eq_getElem hi)).1 e he hb
          exact ih e.on this (by omega)⟩
        rw [hr] at this; simp at this
  intro fuel
  induction fuel with
  | zero =>
    intro l a w hl hu hc h
    have hall : ∀ i, i < ops.size → l.getD i false = true := fun i hi => by
      cases hd : l.getD i false with
      | true => rfl
      | false =>
        have : i ∈ (List.range ops.size).filter fun i => !l.getD i true := List.mem_filter.2 ⟨List.mem_range.2 hi, by rw [hgd l i hl hi, hd]; rfl⟩
        have h0 : (List.range ops.size).filter (fun i => !l.getD i true) = [] := List.eq_nil_of_length_eq_zero (Nat.le_zero.1 hu)
        rw [h0] at this; simp at this
    refine ⟨?_, hend l a w hl hall h⟩
    cases hr : Region.ready .any ops l with
    | nil => rfl
    | cons j js =>
      obtain ⟨h1, o, ho, _⟩ := mem_ready.1 (by rw [hr]; simp : j ∈ Region.ready .any ops l)
      have hj := (Array.getElem?_eq_some_iff.1 ho).1
      rw [hgd l j hl hj, hall j hj] at h1; cases h1
  | succ fuel ih =>
    intro l a w hl hu hc h
    refine ⟨fun hr => hend l a w hl (hprog l hl hr) h, fun j hj => ?_⟩
    obtain ⟨h1, o, ho, hed⟩ := mem_ready.1 hj
    have hjs := (Array.getElem?_eq_some_iff.1 ho).1
    have hj0 : l.getD j false = false := by rw [← hgd l j hl hjs]; exact h1
    have hjr : j < rs.length := by omega
    have hr : rs[j]? = some (rs[j]) := List.getElem?_eq_getElem hjr
    have hfo := List.all_eq_true.1 hf o (by simpa using Array.mem_of_getElem? ho)
    simp only [Bool.and_eq_true] at hfo
    obtain ⟨hd1, hd2⟩ := drawOk_spec hdr ho
    have hsx : ∀ (k : Nat) (o : Oper) (r : Rec), ops[k]? = some o → rs[k]? = some r → ∃ e m nid, Step1 P md e m nid (operOf P ops o) r := fun k o r h1 h2 => ⟨_, _, _, hs k o r h1 h2⟩
    -- what is done is what stands before, but for what j has nothing to do with
    have hlow : ∀ i, l.getD i false = false → ((Region.before ops).getD j 0).testBit i = false := fun i hi => by
      cases hb : ((Region.before ops).getD j 0).testBit i with
      | false => rfl
      | true => rw [before_in hc ho hed hb] at hi; cases hi
    have hhigh : ∀ i, i < ops.size → l.getD i false = true → ((Region.before ops).getD i 0).testBit j = false := fun i hi hd => by
      cases hb : ((Region.before ops).getD i 0).testBit j with
      | false => rfl
      | true => have := before_in hc (Array.getElem?_eq_getElem hi) (fun ed he hb => hc i _ hd (Array.getElem?_eq_getElem hi) ed he hb) hb
                rw [hj0] at this; cases this
    have henv : ∀ t, t ∈ o.looksAt ops → eAt (fun i => l.getD i false) B.e 0 rs t = eAt (fun q => decide (q < j)) B.e 0 rs t := by
      intro t ht
      refine atF_agr rfl fun k g hk hx => ?_
      rw [List.getElem?_map, Option.map_eq_some_iff] at hk
      obtain ⟨r', hr', rfl⟩ := hk
      simp only [Nat.zero_add]
      have hk1 := (List.getElem?_eq_some_iff.1 hr').1
      have hok : ops[k]? = some (ops[k]'(by omega)) := Array.getElem?_eq_getElem (by omega)
      have hdst : (ops[k]'(by omega)).dst = some t := by
        have h1 := (hs k _ r' hok hr').1
        unfold Rec.eg at hx
        cases hd : r'.dst with
        | none => rw [hd] at hx; simp [keysOf] at hx
        | some d => rw [hd] at hx; simp [keysOf] at hx; subst hx; rw [← hd]; exact h1.symm
      by_cases hkj : k = j
      · subst hkj; simp [hj0]
      · have h2 := (hd2 k _ t hkj hok hdst).2 ht
        split at h2
        · rename_i hlt
          simp only [hlt, decide_true]
          exact before_in hc ho hed h2
        · rename_i hlt
          simp only [hlt, decide_false]
          cases hd : l.getD k false with
          | false => rfl
          | true => rw [hhigh k (by omega) hd] at h2; cases h2
    refine rstep (D' := fun i => (l.setIfInBounds j true).getD i false) h ho hr (hs j _ _ ho hr) (fun x hx => by have := hfo.1; rw [hx] at this; simpa using this) hfo.2 ?_ ?_ (fun id hid => ?_) hj0 (by simp [hl, hjs]) (fun k hk => getD_set_ne false (fun e => hk e.symm)) (fun k r' hk hr' hd x hx hx' => ?_) (fun k r' hk hr' hd x hx => ?_) fun a' w' h' => ih _ a' w' (by simp [hl]) ?_ ?_ h'
    · unfold AOper.want operOf
      cases hg : o.guard with
      | none => rfl
      | some p =>
        obtain ⟨g, b⟩ := p
        have h3 := hfo.2
        rw [hg] at h3
        obtain ⟨t, ht⟩ := Option.isSome_iff_exists.1 h3
        simp only [ht]
        rw [henv t (by simp [Oper.looksAt, hg, ht])]
    · refine opOf_map rfl fun x hx => ?_
      cases x with
      | tmp t => exact henv t (by unfold Oper.looksAt; exact List.mem_append_left _ (List.mem_filterMap.2 ⟨.tmp t, by simpa using hx, rfl⟩))
      | _ => rfl
    · refine atF_agr rfl fun k g hk hx => ?_
      rw [List.getElem?_map, Option.map_eq_some_iff] at hk
      obtain ⟨r', hr', rfl⟩ := hk
      simp only [Nat.zero_add]
      have hk1 := (List.getElem?_eq_some_iff.1 hr').1
      rcases Nat.lt_trichotomy k j with hlt | rfl | hlt
      · simp only [hlt, decide_true]
        cases hd : l.getD k false with
        | true => rfl
        | false => exact ((unord_ok hsx hn hp hlt hr' hr (hlow k hd) id).1 hx).1 hid |>.elim
      · simp [hj0]
      · have : ¬ k < j := by omega
        simp only [this, decide_false]
        cases hd : l.getD k false with
        | false => rfl
        | true => exact ((unord_ok hsx hn hp hlt hr hr' (hhigh k (by omega) hd) id).2 hx hid).elim
    · have hk1 := (List.getElem?_eq_some_iff.1 hr').1
      have hok : ops[k]? = some (ops[k]'(by omega)) := Array.getElem?_eq_getElem (by omega)
      have e1 := (hs k _ r' hok hr').1
      have e2 := (hs j _ _ ho hr).1
      unfold Rec.eg at hx hx'
      rw [e1] at hx'; rw [e2] at hx
      simp only [operOf] at hx hx'
      cases hd1 : o.dst with
      | none => rw [hd1] at hx; simp [keysOf] at hx
      | some d =>
        cases hd3 : (ops[k]'(by omega)).dst with
        | none => rw [hd3] at hx'; simp [keysOf] at hx'
        | some d' =>
          rw [hd1] at hx; rw [hd3] at hx'
          simp [keysOf] at hx hx'
          subst hx; subst hx'
          exact (hd2 k _ x (by omega) hok hd3).1 hd1
    · have hk1 := (List.getElem?_eq_some_iff.1 hr').1
      exact ((unord_ok hsx hn hp hk hr hr' (hhigh k (by omega) hd) x).1 hx).2
    · have : unl ops.size (l.setIfInBounds j true) < unl ops.size l := by
        unfold unl
        refine filter_lt (x := j) (fun y hy => ?_) (List.mem_range.2 hjs) (by rw [h1]; rfl) (by simp [hl, hjs])
        by_cases hyj : j = y
        · subst hyj; rw [h1]; rfl
        · rwa [getD_set_ne true hyj] at hy
      omega
    · intro i oi hi hoi ed he hb
      by_cases hij : i = j
      · subst hij
        rw [ho] at hoi; obtain rfl := Option.some.inj hoi
        exact getD_set_true (hed ed he hb)
      · have hi : (l.setIfInBounds j true).getD i false = true := hi
        rw [getD_set_ne false (fun e => hij e.symm)] at hi
        exact getD_set_true (hc i oi hi hoi ed he hb)
end
end Go.Eng
