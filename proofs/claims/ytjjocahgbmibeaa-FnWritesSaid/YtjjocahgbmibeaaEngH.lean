/- Operations: loads, stores, numbers, conversions, parts. -/
import Derived.Test.YtjjocahgbmibeaaEngG
import Derived.Lib.ConvBytes
import Derived.Deep.MidRow
namespace Go.Eng
set_option linter.unusedVariables false
set_option linter.unusedSimpArgs false

section
variable {P : Program} {C : Ctx} {w w' : World} {σ σ' : Sig} {F F' : Nat → Prop} {m : Mem} {nid : Nat} {ups : Ups} {av : AV} {v : Value} {e : Nat → AV} {a : Act}

theorem op_new (h : Inv C w σ F m) (he : EnvR w σ F e a.tmps) (hn : σ nid = none) {o : Oper} {t : TypeId} (ho : o.op = .alloc t) (hact : act nid m ((opOf P o).map (AOpd.get e)) = some (av, ups)) : OpGood P o a C w σ F m nid ups av := by
  simp only [opOf, ho] at hact
  split at hact
  · rename_i z hz
    split at hact
    · rename_i hc
      simp only [AOp.map, act, Option.some.injEq, Prod.mk.injEq] at hact
      obtain ⟨rfl, rfl⟩ := hact
      obtain ⟨it, hit, hzz⟩ := Option.bind_eq_some_iff.1 hz
      exact .inl ⟨_, _, by simp [execOp, ho, Instr.alloc, zeroValue, typeInfo, hit, hzz, newVar, newRow], good_box h hn t (cellsOf_rel hc)⟩
    · simp [AOp.map, act] at hact
  · simp [AOp.map, act] at hact
theorem op_box (h : Inv C w σ F m) (he : EnvR w σ F e a.tmps) (hn : σ nid = none) {o : Oper} {t : TypeId} {x : Operand} (ho : o.op = .box t x) (hact : act nid m ((opOf P o).map (AOpd.get e)) = some (av, ups)) : OpGood P o a C w σ F m nid ups av := by
  simp only [opOf, ho, AOp.map, act, Option.bind_eq_some_iff, Option.some.injEq, Prod.mk.injEq] at hact
  obtain ⟨cs, hcs, rfl, rfl⟩ := hact
  exact .inl ⟨_, _, by simp [execOp, ho, Instr.box, newVar, newRow], good_box h hn t ((opd_rel he x).cellsL hcs)⟩

/-- One value out of cells. -/
theorem one_rel {ag : Bool} {cs : List AV} {us : List Value} (h : one ag cs = some av) (hl : us.length = cs.length) (hr : ∀ (q : Nat) u v, cs[q]? = some u → us[q]? = some v → RelL w σ F u v ∧ v.oneCell' = true) :
    RelL w σ F av (if ag then .agg us.toArray else us.headD .nilFunc) ∧ (ag = false → us = [us.headD .nilFunc]) := by
  unfold one at h
  cases ag with
  | true =>
    obtain rfl := Option.some.inj h
    refine ⟨.agg (by simpa using hl) (fun u hu => ?_) (fun k u v hu hv => (hr k u v hu (by simpa using hv)).1), fun hf => by cases hf⟩
    obtain ⟨k, hk, rfl⟩ := Array.getElem_of_mem hu
    have hk' : k < us.length := by simpa using hk
    have h1 : us[k]? = some (us.toArray[k]) := by simp [List.getElem?_eq_getElem hk']
    exact (hr k _ _ (List.getElem?_eq_getElem (by omega)) h1).2
  | false =>
    simp only [Bool.false_eq_true, if_false] at h
    split at h
    · rename_i c
      obtain rfl := Option.some.inj h
      match us, hl with
      | [u], _ => exact ⟨(hr 0 _ _ rfl rfl).1, fun _ => rfl⟩
    · cases h
theorem szOf_ok {t : TypeId} {n : Nat} (h : szOf P t = some n) : ∃ i, P.info? t = some i ∧ i.size = n := by
  obtain ⟨i, hi, he⟩ := Option.map_eq_some_iff.1 h
  exact ⟨i, hi, he⟩
theorem run_isAgg {t : TypeId} {ag : Bool} (h : agOf P t = some ag) : (isAgg t).run P w = .ok ag w := by
  obtain ⟨d, hd, he⟩ := Option.map_eq_some_iff.1 h
  unfold isAgg
  rw [Sem.run_bind, run_underlying hd w]
  subst he
  cases d <;> simp
/-- A load through a pointer. -/
theorem run_ld {t : TypeId} {sz : Nat} {ag : Bool} {p : Addr} {j : Nat} {cs : List AV} {us : List Value} (hsz : szOf P t = some sz) (hag : agOf P t = some ag) (h1 : ag = true ∨ sz = 1)
    (hl : us.length = cs.length) (hb : j + sz ≤ cs.length) (hc : ∀ (q : Nat) u, us[q]? = some u → w.cell? (p.add q) = some u) :
    (loadVar t (p.add j)).run P w = .ok (if ag then .agg ((us.drop j).take sz).toArray else ((us.drop j).take sz).headD .nilFunc) w := by
  obtain ⟨i, hi, rfl⟩ := szOf_ok hsz
  have hcell : ∀ (k : Nat) u, ((us.drop j).take i.size)[k]? = some u → w.cell? ((p.add j).add k) = some u := by
    intro k u hk
    rw [addr_add_add]
    rw [List.getElem?_take] at hk
    split at hk
    · exact hc _ u (by rwa [List.getElem?_drop] at hk)
    · cases hk
  have hlen : ((us.drop j).take i.size).length = i.size := by rw [List.length_take, List.length_drop]; omega
  unfold loadVar
  rw [Sem.run_bind, run_isAgg hag]
  simp only [Result.andThen_ok]
  cases ag with
  | true =>
    have := run_loadCells_list (P := P) w (p.add j) _ hcell
    rw [hlen] at this
    simp [sizeOf, typeInfo, hi, this]
  | false =>
    have hs1 : i.size = 1 := h1.resolve_left (by simp)
    match hu : (us.drop j).take i.size, hlen with
    | [u], _ =>
      have h2 := hcell 0 u (by rw [hu]; rfl)
      rw [addr_add_add, Nat.add_zero] at h2
      simp [run_load, h2]
    | [], hlen => rw [hs1] at hlen; cases hlen
    | _ :: _ :: _, hlen => rw [hs1] at hlen; simp at hlen
theorem op_ld (h : Inv C w σ F m) (he : EnvR w σ F e a.tmps) {o : Oper} {t : TypeId} {x : Operand} (ho : o.op = .load t x) (hact : act nid m ((opOf P o).map (AOpd.get e)) = some (av, ups)) : OpGood P o a C w σ F m nid ups av := by
  simp only [opOf, ho] at hact
  split at hact
  · rename_i sz ag hsz hag
    split at hact
    · rename_i hc
      simp only [AOp.map, act, Option.bind_eq_some_iff] at hact
      obtain ⟨q, hq, hact⟩ := hact
      split at hact
      · rename_i hb
        simp only [Option.bind_eq_some_iff, Option.some.injEq, Prod.mk.injEq] at hact
        obtain ⟨v, hv, rfl, rfl⟩ := hact
        obtain ⟨p, us, h1, h2, h3, h4⟩ := h.ptrCells_ok (cs := q.1) (j := q.2) hq (opd_rel he x)
        have hr := one_rel (w := w) (σ := σ) (F := F) (us := (us.drop q.2).take sz) hv (by rw [List.length_take, List.length_take, List.length_drop, List.length_drop, h2]) (fun k u v hu hv => by
          rw [List.getElem?_take] at hu hv
          split at hu
          · rename_i hk; rw [if_pos hk] at hv; rw [List.getElem?_drop] at hu hv; exact h4 _ u v hu hv
          · cases hu)
        refine .inl ⟨_, w, ?_, good_quiet h hr.1⟩
        simp only [execOp, ho, Instr.loadAt, Sem.run_bind, h1, Instr.sureAddr, Sem.run_pure, Result.andThen_ok, run_ld hsz hag hc h2 hb h3]
      · cases hact
    · simp [AOp.map, act] at hact
  · simp [AOp.map, act] at hact

theorem turns_setRow (w : World) (g : Nat) (arr : Array Value) : Turns w (w.setRow g arr) (fun k => k = g) := by
  refine ⟨rfl, rfl, rfl, by simp, fun k hk hne => ?_⟩
  simp only [World.setRow, Array.getElem?_modify]
  rw [if_neg (fun e => hne e.symm)]
/-- A store through a pointer. -/
theorem run_st {t ty : TypeId} {g j : Nat} {arr : Array Value} {i : TypeInfo} {v : Value} (hi : P.info? t = some i) (hv : v.cells.size = i.size) (hg : w.heap[g]? = some (.cells arr ty (0, 0))) (hb : j + i.size ≤ arr.size)
    (h1 : ∀ u, u ∈ v.cells.toList → u.oneCell' = true) : (Instr.storeAt t (.pointer (some ⟨g, j, none⟩)) v).run P w = .ok () (w.setRow g (lay arr.toList j v.cells.toList).toArray) := by
  have hrun : (storeCells ⟨g, j, none⟩ v.cells.toList 0).run P w = .ok () (w.setRow g (lay arr.toList j v.cells.toList).toArray) := run_storeCells_at P g j ty v.cells.toList 0 arr w hg (by rw [Array.length_toList, hv]; omega) h1
  simp only [Instr.storeAt, Instr.sureAddr, Sem.run_bind, Sem.run_pure, Result.andThen_ok, storeVar, sizeOf, typeInfo, run_program, hi, hv]
  simp only [ne_eq, not_true_eq_false, if_false, Sem.run_bind, Sem.run_pure, Result.andThen_ok, hrun]
theorem op_st (h : Inv C w σ F m) (he : EnvR w σ F e a.tmps) {o : Oper} {t : TypeId} {x y : Operand} (ho : o.op = .store t x y) (hact : act nid m ((opOf P o).map (AOpd.get e)) = some (av, ups)) : OpGood P o a C w σ F m nid ups av := by
  simp only [opOf, ho] at hact
  split at hact
  case h_2 => simp [AOp.map, act] at hact
  rename_i sz hsz
  obtain ⟨i, hi, rfl⟩ := szOf_ok hsz
  simp only [AOp.map, act] at hact
  have hx := opd_rel he x
  have hy := opd_rel he y
  split at hact
  case h_2 => cases hact
  rename_i id k j hxe
  rw [hxe] at hx
  obtain ⟨ℓ, ad, hl, hA, hxv⟩ := hx.eltI
  simp only [Option.bind_eq_some_iff] at hact
  obtain ⟨ps, hps, hact⟩ := hact
  have hyc := hy.cellsL hps
  split at hact
  case isFalse => cases hact
  rename_i hpl
  have hysz : (a.eval y).cells.size = i.size := hyc.1.trans hpl
  have hy1 : ∀ u, u ∈ (a.eval y).cells.toList → u.oneCell' = true := fun u hu => by
    obtain ⟨q, hq⟩ := List.getElem?_of_mem hu
    have hqlt : q < ps.length := by
      have := (List.getElem?_eq_some_iff.1 hq).1
      rw [Array.length_toList, hyc.1] at this; exact this
    obtain ⟨v', g1, _, g3⟩ := hyc.2 q _ (List.getElem?_eq_getElem hqlt)
    have : (a.eval y).cells[q]? = some u := by simpa using hq
    rw [this] at g1; obtain rfl := Option.some.inj g1; exact g3
  split at hact
  case h_3 => cases hact
  · -- a box
    rename_i cs hm
    split at hact
    case isFalse => cases hact
    rename_i hc
    obtain ⟨rfl, hb⟩ := hc
    simp only [Option.some.injEq, Prod.mk.injEq] at hact
    obtain ⟨rfl, rfl⟩ := hact
    obtain ⟨ℓ', g, ty, arr, h1, h2, h3, h4, h5⟩ := h.objs id _ hm
    rw [hl] at h1; obtain rfl := Option.some.inj h1
    rw [hA] at h2; obtain rfl := Option.some.inj h2
    rw [Nat.zero_mul, Nat.zero_add, addr_add_plain] at hxv
    have hrun := run_st (P := P) (t := t) (j := j) hi hysz h3 (by rw [h4.1]; exact hb) hy1
    have hown : Owns σ id (.box cs) g := ⟨ℓ, hl, hA⟩
    have hmono : Mono w F (w.setRow g (lay arr.toList j (a.eval y).cells.toList).toArray) F := fun k hk =>
      ⟨hk, (turns_setRow w g _).block k (h.fnew k hk).1 (fun e => h5.1 (e ▸ hk))⟩
    have hlay := h4.lay hyc (off := j) (by rw [hpl]; exact hb)
    refine .inr ⟨_, ?_, σ, F, h.turn (o := .box cs) hm hown (turns_setRow w g _) ⟨ℓ, g, ty, _, hl, hA, setRow_heap w g arr _ ty (0, 0) h3, hlay.mono (Sub.refl _) hmono, h5⟩ (fun g' hg' => ?_), .junk, hmono, Sub.refl _, fun id hid => .inl hid⟩
    · simp only [execOp, ho, Sem.run_bind, hxv, hrun, Result.andThen_ok, Sem.run_pure]
    · obtain ⟨ℓ2, i1, i2⟩ := hg'
      rw [hl] at i1; obtain rfl := Option.some.inj i1
      rw [hA] at i2; simpa using i2.symm
  · -- an element of a row
    rename_i fl es mc xs hm
    simp only [Option.bind_eq_some_iff] at hact
    obtain ⟨p, hp, hact⟩ := hact
    split at hact
    case h_2 => cases hact
    rename_i c hck
    split at hact
    case isFalse => cases hact
    rename_i hc
    obtain ⟨hb, hpall⟩ := hc
    simp only [Option.some.injEq, Prod.mk.injEq] at hact
    obtain ⟨rfl, rfl⟩ := hact
    obtain ⟨F1, g1, g2, g3, g4⟩ := fzCells_ok (cs := ps) (cs' := p.1) (u := p.2) (vs := (a.eval y).cells.toList) h hp (by rw [Array.length_toList]; exact hyc.1) (fun k c v hk hv' => by
      obtain ⟨v', h1, h2, _⟩ := hyc.2 k c hk
      have : (a.eval y).cells[k]? = some v := by simpa using hv'
      rw [this] at h1; obtain rfl := Option.some.inj h1; exact h2)
    have hm1 : putM m p.2 id = some (.row fl es mc xs) := by
      have : ∀ (u : Ups) (m : Mem), u.all (fun u => !(u.1 == id)) = true → putM m u id = m id := by
        intro u
        induction u with
        | nil => intro m _; rfl
        | cons q u ih =>
          intro m hu
          simp only [List.all_cons, Bool.and_eq_true] at hu
          rw [putM_cons, ih _ hu.2, setM_other m _ (by have := hu.1; simp at this; exact fun e => this e.symm)]
      rw [this p.2 m hpall]; exact hm
    obtain ⟨ℓ', h1, h2, h3, h4, h5, h6, h7, h8⟩ := g1.objs id _ hm1
    rw [hl] at h1; obtain rfl := Option.some.inj h1
    have hklt : k < xs.length := (List.getElem?_eq_some_iff.1 hck).1
    obtain ⟨g, ty, arr, i1, i2, i3, i4, i5⟩ := h8 (by omega)
    rw [hA] at i1; obtain rfl := Option.some.inj i1
    rw [addr_add_plain] at hxv
    have hcl : c.length = es := h7 c (List.mem_of_getElem? hck)
    have hpl1 : p.1.length = i.size := g3.trans hpl
    subst h2
    have hle : k * ℓ.es + ℓ.es ≤ ℓ.cap * ℓ.es := by rw [← Nat.succ_mul]; exact Nat.mul_le_mul_right _ (by omega)
    have hrun := run_st (P := P) (t := t) (j := k * ℓ.es + j) hi hysz i2 (by rw [i3]; omega) hy1
    have hown : Owns σ id (.row fl ℓ.es mc xs) g := ⟨ℓ, hl, hA, by omega⟩
    have hmono : Mono w F1 (w.setRow g (lay arr.toList (k * ℓ.es + j) (a.eval y).cells.toList).toArray) F1 := fun q hq =>
      ⟨hq, (turns_setRow w g _).block q (g1.fnew q hq).1 (fun e => i5.1 (e ▸ hq))⟩
    have hx' : (lay c j p.1).length = ℓ.es := by rw [lay_len _ _ _ (by rw [hpl1]; exact hb), hcl]
    have hfl := flat_len h7
    refine .inr ⟨_, ?_, σ, F1, ?_, .junk, fun q hq => ⟨(g2 q hq).1, (hmono q (g2 q hq).1).2⟩, Sub.refl _, fun id hid => .inl hid⟩
    · simp only [execOp, ho, Sem.run_bind, hxv, hrun, Result.andThen_ok, Sem.run_pure]
    · rw [putM_append]
      refine g1.turn (o := .row fl ℓ.es mc xs) hm1 hown (turns_setRow w g _) ⟨ℓ, hl, rfl, by rw [List.length_set]; exact h3, h4, by rw [List.length_set]; exact h5, h6, fun x hx => ?_, fun _ => ⟨g, ty, _, hA, setRow_heap w g arr _ ty (0, 0) i2, ?_, ?_, i5⟩⟩ (fun g' hg' => ?_)
      · rcases List.mem_or_eq_of_mem_set hx with hx | rfl
        · exact h7 x hx
        · exact hx'
      · rw [List.size_toArray, lay_len _ _ _ (by rw [Array.length_toList, Array.length_toList, hysz, i3]; omega), Array.length_toList, i3]
      · intro q u hu
        rw [flat_set h7 hklt hx'] at hu
        have hlen2 : (lay arr.toList (k * ℓ.es + j) (a.eval y).cells.toList)[q]? = if q < k * ℓ.es + j then arr.toList[q]? else if q < k * ℓ.es + j + i.size then (a.eval y).cells.toList[q - (k * ℓ.es + j)]? else arr.toList[q]? := by
          rw [lay_get _ _ _ (by rw [Array.length_toList, Array.length_toList, hysz, i3]; omega), Array.length_toList, hysz]
        have hgoal : ∀ v, (lay arr.toList (k * ℓ.es + j) (a.eval y).cells.toList)[q]? = some v → (lay arr.toList (k * ℓ.es + j) (a.eval y).cells.toList).toArray[q]? = some v := fun v hv => by
          rw [List.getElem?_toArray]; exact hv
        rw [lay_get _ _ _ (by rw [hx', hfl, ← Nat.succ_mul]; exact Nat.mul_le_mul_right _ hklt), hx'] at hu
        -- what it was
        have old : ∀ u, xs.flatten[q]? = some u → (q < k * ℓ.es + j ∨ k * ℓ.es + j + i.size ≤ q) → ∃ v, (lay arr.toList (k * ℓ.es + j) (a.eval y).cells.toList).toArray[q]? = some v ∧ RelF (w.setRow g (lay arr.toList (k * ℓ.es + j) (a.eval y).cells.toList).toArray) (FF (fl && p.1.all AV.lit) F1) u v := by
          intro u hu hq
          obtain ⟨v, j1, j2⟩ := i4 q u hu
          refine ⟨v, hgoal v ?_, ?_⟩
          · rw [hlen2]
            rcases hq with hq | hq
            · rw [if_pos hq]; simpa using j1
            · rw [if_neg (by omega), if_neg (by omega)]; simpa using j1
          · cases hfl2 : fl
            · rw [hfl2] at j2; exact (j2.mono hmono)
            · rw [hfl2] at j2
              exact j2.mono (mono_noF _ _ _)
        by_cases q1 : q < k * ℓ.es
        · rw [if_pos q1] at hu
          exact old u hu (.inl (by omega))
        · rw [if_neg q1] at hu
          by_cases q2 : q < k * ℓ.es + ℓ.es
          · rw [if_pos q2, lay_get _ _ _ (by rw [hpl1]; exact hb), hpl1] at hu
            have hcq : c[q - k * ℓ.es]? = xs.flatten[q]? := by
              have := flat_get h7 hck (j := q - k * ℓ.es) (by omega)
              rw [← this]; congr 1; omega
            by_cases q3 : q - k * ℓ.es < j
            · rw [if_pos q3, hcq] at hu
              exact old u hu (.inl (by omega))
            · rw [if_neg q3] at hu
              by_cases q4 : q - k * ℓ.es < j + i.size
              · rw [if_pos q4] at hu
                have hlt : q - k * ℓ.es - j < (a.eval y).cells.toList.length := by rw [Array.length_toList, hysz]; omega
                have hr := g4 _ u _ hu (List.getElem?_eq_getElem hlt)
                refine ⟨(a.eval y).cells.toList[q - k * ℓ.es - j], hgoal _ ?_, ?_⟩
                · rw [hlen2, if_neg (by omega), if_pos (by omega), ← List.getElem?_eq_getElem hlt]
                  congr 1; omega
                · cases hfl2 : fl
                  · exact hr.mono hmono
                  · cases hlt2 : p.1.all AV.lit
                    · exact hr.mono hmono
                    · exact hr.lit (List.all_eq_true.1 hlt2 u (List.mem_of_getElem? hu))
              · rw [if_neg q4, hcq] at hu
                exact old u hu (.inr (by omega))
          · rw [if_neg q2] at hu
            exact old u hu (.inr (by omega))
      · obtain ⟨ℓ2, i1, i2, _⟩ := hg'
        rw [hl] at i1; obtain rfl := Option.some.inj i1
        rw [hA] at i2; simpa using i2.symm
end
end Go.Eng
