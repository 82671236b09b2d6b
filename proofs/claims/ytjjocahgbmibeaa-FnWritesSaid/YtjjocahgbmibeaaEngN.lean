/- Operations: clear, and the one law of operations. -/
import Derived.Test.YtjjocahgbmibeaaEngM
namespace Go.Eng
set_option linter.unusedVariables false
set_option linter.unusedSimpArgs false

theorem lay_flat {α : Type} {es : Nat} {xs ys : List (List α)} (hx : ∀ x, x ∈ xs → x.length = es) (hy : ∀ y, y ∈ ys → y.length = es) (lo : Nat) : (lay xs lo ys).flatten = lay xs.flatten (lo * es) ys.flatten := by
  unfold lay
  rw [List.flatten_append, List.flatten_append, flat_take lo hx, flat_drop _ hx, flat_len hy, Nat.add_mul]
section
variable {P : Program} {C : Ctx} {w w' : World} {σ σ' : Sig} {F F' : Nat → Prop} {m : Mem} {nid : Nat} {ups : Ups} {av : AV} {v : Value} {e : Nat → AV} {a : Act}

theorem op_cap (h : Inv C w σ F m) (he : EnvR w σ F e a.tmps) {o : Oper} {c : Call} {x : Operand} {t e' : TypeId} (ho : o.op = .call c) (hc : c.callee = .builtin .cap) (hx : c.args = #[x]) (ht : c.argTypes = #[t]) (hu : P.underlying t = some (.slice e'))
    (hact : act nid m ((AOp.cap (opd x)).map (AOpd.get e)) = some (av, ups)) : OpGood P o a C w σ F m nid ups av := by
  simp only [AOp.map, act] at hact
  have hxr := opd_rel he x
  split at hact
  · rename_i hxe
    rw [hxe] at hxr
    simp only [Option.some.injEq, Prod.mk.injEq] at hact
    obtain ⟨rfl, rfl⟩ := hact
    obtain ⟨A, hv⟩ := hxr.empI
    exact quiet h (.fz .i) (by simp [execOp, ho, resolve, hc, hx, ht, invoke, builtin, hv, Builtin.cap_, run_underlying hu, goInt])
  · cases hact
theorem op_mxi (h : Inv C w σ F m) (he : EnvR w σ F e a.tmps) {o : Oper} {c : Call} {x y : Operand} (ho : o.op = .call c) (hc : c.callee = .builtin .max) (hx : c.args = #[x, y]) (hact : act nid m ((AOp.mxi (opd x) (opd y)).map (AOpd.get e)) = some (av, ups)) : OpGood P o a C w σ F m nid ups av := by
  simp only [AOp.map, act] at hact
  have hxr := opd_rel he x
  have hyr := opd_rel he y
  split at hact
  case h_2 => cases hact
  rename_i k p k' q hxe hye
  rw [hxe] at hxr; rw [hye] at hyr
  split at hact
  case isFalse => cases hact
  rename_i hk
  subst hk
  simp only [Option.some.injEq, Prod.mk.injEq] at hact
  obtain ⟨rfl, rfl⟩ := hact
  exact quiet h (.fz .i) (by simp [execOp, ho, resolve, hc, hx, invoke, builtin, hxr.iI, hyr.iI, run_max_int2])
theorem op_mni (h : Inv C w σ F m) (he : EnvR w σ F e a.tmps) {o : Oper} {c : Call} {x y : Operand} (ho : o.op = .call c) (hc : c.callee = .builtin .min) (hx : c.args = #[x, y]) (hact : act nid m ((AOp.mni (opd x) (opd y)).map (AOpd.get e)) = some (av, ups)) : OpGood P o a C w σ F m nid ups av := by
  simp only [AOp.map, act] at hact
  have hxr := opd_rel he x
  have hyr := opd_rel he y
  split at hact
  case h_2 => cases hact
  rename_i k p k' q hxe hye
  rw [hxe] at hxr; rw [hye] at hyr
  split at hact
  case isFalse => cases hact
  rename_i hk
  subst hk
  simp only [Option.some.injEq, Prod.mk.injEq] at hact
  obtain ⟨rfl, rfl⟩ := hact
  exact quiet h (.fz .i) (by simp [execOp, ho, resolve, hc, hx, invoke, builtin, hxr.iI, hyr.iI, run_min_int2])

/-- Zeros go over elements of a row. -/
theorem good_zero (h : Inv C w σ F m) {id : Nat} {fl : Bool} {es mc : Nat} {xs ys : List (List AV)} {z : Value} (hm : m id = some (.row fl es mc xs)) (hz : z.cells.size = es) (hz1 : z.cells.all Value.oneCell' = true) (hlit : (cellsOf z).all AV.lit = true)
    {ℓ : Loc} (hl : σ id = some ℓ) {lo n : Nat} (hn : 0 < n) (hlo : lo + n ≤ ℓ.cap) (hys : ys.length = xs.length) (hyl : ∀ y, y ∈ ys → y.length = es)
    (hyf : ∀ (q : Nat) u, ys.flatten[q]? = some u → if lo * es ≤ q ∧ q < lo * es + n * es then (List.replicate n (cellsOf z)).flatten[q - lo * es]? = some u else xs.flatten[q]? = some u) :
    ∃ g w', ℓ.A = some ⟨g, 0, none⟩ ∧ (storeCells ⟨g, lo * es, none⟩ (Builtin.zeroCells z.cells n).toList).run P w = .ok () w' ∧ Good C w σ F m nid [(id, .row fl es mc ys)] (.tup []) (.tuple #[]) w' := by
  obtain ⟨ℓ', h1, h2, h3, h4, h5, h6, h7, h8⟩ := h.objs id _ hm
  rw [hl] at h1; obtain rfl := Option.some.inj h1
  obtain ⟨g, t, arr, g1, g2, g3, g4, g5⟩ := h8 (by omega)
  have hzc : Builtin.zeroCells z.cells n = (Array.range (n * es)).map (z.cells[· % z.cells.size]!) := by rw [Builtin.zeroCells, hz]
  have hzl : (Builtin.zeroCells z.cells n).toList.length = n * es := by rw [Array.length_toList, size_zeroCells, hz]
  have hcl : (cellsOf z).length = es := by rw [← hz]; simp [cellsOf]
  have harr : arr.toList.length = ℓ.cap * es := by simpa using g3
  have hle : lo * es + (Builtin.zeroCells z.cells n).toList.length ≤ arr.toList.length := by
    rw [hzl, harr, ← Nat.add_mul]; exact Nat.mul_le_mul_right _ hlo
  have hst : (storeCells ⟨g, lo * es, none⟩ (Builtin.zeroCells z.cells n).toList).run P w = .ok () (w.setRow g (lay arr.toList (lo * es) (Builtin.zeroCells z.cells n).toList).toArray) := run_storeCells_at P g (lo * es) t (Builtin.zeroCells z.cells n).toList 0 arr w g2 (by simpa using hle) (fun u hu => by
    obtain ⟨k, hk⟩ := List.getElem?_of_mem hu
    have hlt : k < n * es := by rw [← hzl]; exact (List.getElem?_eq_some_iff.1 hk).1
    have hes : ∀ x, x ∈ List.replicate n (cellsOf z) → x.length = es := fun x hx => by rw [flat_rep _ _ x hx, hcl]
    have hfl := flat_len hes
    rw [List.length_replicate] at hfl
    obtain ⟨v', i1, i2⟩ := made_rows (w := w) hz hz1 hlit (n := n) (n * es) (Nat.le_refl _) F k _ (List.getElem?_eq_getElem (by rw [hfl]; exact hlt))
    rw [← hzc] at i1
    have : (Builtin.zeroCells z.cells n)[k]? = some u := by simpa using hk
    rw [this] at i1; obtain rfl := Option.some.inj i1; exact i2.one)
  have ht := turns_setRow w g (lay arr.toList (lo * es) (Builtin.zeroCells z.cells n).toList).toArray
  have hmono : Mono w F (w.setRow g (lay arr.toList (lo * es) (Builtin.zeroCells z.cells n).toList).toArray) F := fun k hk => ⟨hk, ht.block k (h.fnew k hk).1 (fun e => g5.1 (e ▸ hk))⟩
  refine ⟨g, _, g1, hst, σ, F, h.turn (o := .row fl es mc xs) hm ⟨ℓ, hl, g1, by omega⟩ ht ⟨ℓ, hl, h2, by rw [hys]; exact h3, h4, by rw [hys]; exact h5, h6, hyl, fun _ => ⟨g, t, _, g1, setRow_heap w g arr _ t (0, 0) g2, ?_, fun q u hq => ?_, g5⟩⟩ (fun g' hg' => ?_), .tup rfl (fun k u v hk => by simp at hk), hmono, Sub.refl _, fun id hid => .inl hid⟩
  · rw [List.size_toArray, lay_len _ _ _ hle, harr]
  · have hyq := hyf q u hq
    rw [List.getElem?_toArray, lay_get _ _ _ hle, hzl]
    split at hyq
    · rename_i hb
      obtain ⟨v', i1, i2⟩ := made_rows (w := w) hz hz1 hlit (n := n) (n * es) (Nat.le_refl _) (FF fl F) _ _ hyq
      rw [← hzc] at i1
      rw [if_neg (by omega), if_pos hb.2]
      exact ⟨v', by simpa using i1, i2.mono (hmono.ff _)⟩
    · rename_i hb
      obtain ⟨v', i1, i2⟩ := g4 q u hyq
      refine ⟨v', ?_, i2.mono (hmono.ff _)⟩
      by_cases hb1 : q < lo * es
      · rw [if_pos hb1]; simpa using i1
      · rw [if_neg hb1, if_neg (by omega)]; simpa using i1
  · obtain ⟨ℓ2, i1, i2, _⟩ := hg'
    rw [hl] at i1; obtain rfl := Option.some.inj i1
    rw [g1] at i2; simpa using i2.symm
theorem op_clr (h : Inv C w σ F m) (he : EnvR w σ F e a.tmps) {o : Oper} {c : Call} {x : Operand} {t e' : TypeId} {es bytes : Nat} {z : Value} (ho : o.op = .call c) (hc : c.callee = .builtin .clear) (hx : c.args = #[x]) (ht : c.argTypes = #[t])
    (hel : elemOf' P t = some (e', es, bytes, z)) (hact : act nid m ((AOp.clr es (cellsOf z) (opd x)).map (AOpd.get e)) = some (av, ups)) : OpGood P o a C w σ F m nid ups av := by
  obtain ⟨hu, i, hi, hz, rfl, rfl, hes0, hby0, hzs, hz1⟩ := elemOf_ok hel
  simp only [AOp.map, act] at hact
  have hxr := opd_rel he x
  split at hact
  case isFalse => cases hact
  rename_i hcond
  obtain ⟨hzl, hzlit⟩ := hcond
  have none' : ∀ {A : Option Addr} {n cp : Nat}, a.eval x = .slice A n cp → (A = none ∨ n = 0) → (execOp a.eval o).run P w = .ok (.value (.tuple #[])) w := by
    intro A n cp hv hA
    cases A with
    | none => simp [execOp, ho, resolve, hc, hx, ht, invoke, builtin, hv, Builtin.clear_, run_underlying hu]
    | some ad =>
      have hn : n = 0 := hA.resolve_left (by simp)
      subst hn
      simp [execOp, ho, resolve, hc, hx, ht, invoke, builtin, hv, Builtin.clear_, run_underlying hu]
  have some' : ∀ {ad : Addr} {n cp : Nat} {w' : World}, a.eval x = .slice (some ad) n cp → 0 < n → (storeCells ad (Builtin.zeroCells z.cells n).toList).run P w = .ok () w' → (execOp a.eval o).run P w = .ok (.value (.tuple #[])) w' := by
    intro ad n cp w' hv hn hst
    obtain ⟨k, rfl⟩ : ∃ k, n = k + 1 := ⟨n - 1, by omega⟩
    simp [execOp, ho, resolve, hc, hx, ht, invoke, builtin, hv, Builtin.clear_, run_underlying hu, zeroValue, typeInfo, hi, hz, hst]
  split at hact
  · rename_i hxe
    rw [hxe] at hxr
    simp only [Option.some.injEq, Prod.mk.injEq] at hact
    obtain ⟨rfl, rfl⟩ := hact
    obtain ⟨A, hv⟩ := hxr.empI
    exact .inl ⟨_, w, none' hv (.inr rfl), good_quiet h (.tup rfl (fun k u v hk => by simp at hk))⟩
  · rename_i id hxe
    rw [hxe] at hxr
    obtain ⟨ℓ, A, n, cp, lo, hl, hv, hlo, hcap, hA⟩ := hxr.pastI
    split at hact
    case h_2 => cases hact
    rename_i fl es' mc xs hm
    split at hact
    case isFalse => cases hact
    rename_i hes
    subst hes
    simp only [Option.some.injEq, Prod.mk.injEq] at hact
    obtain ⟨rfl, rfl⟩ := hact
    obtain ⟨ℓ', g1, g2, g3, g4, g5, g6, g7, g8⟩ := h.objs id _ hm
    rw [hl] at g1; obtain rfl := Option.some.inj g1
    rcases Nat.eq_zero_or_pos n with h0 | h0
    · refine .inl ⟨_, w, none' hv (.inr h0), σ, F, ?_, .tup rfl (fun k u v hk => by simp at hk), Mono.refl _ _, Sub.refl _, fun id hid => .inl hid⟩
      exact h.same (h.objs id _ hm) (fun g hg => ⟨_, hm, hg⟩)
    · have hfl := flat_len g7
      obtain ⟨g, w', i1, i2, i3⟩ := good_zero (P := P) (nid := nid) h hm hzs hz1 hzlit hl h0 hcap rfl g7 (fun q u hq => by
        have hlt := (List.getElem?_eq_some_iff.1 hq).1
        rw [hfl] at hlt
        have : xs.length * i.size ≤ lo * i.size := Nat.mul_le_mul_right _ (by omega)
        rw [if_neg (by omega)]; exact hq)
      have hA := hA h0
      rw [i1, g2] at hA
      simp only [Option.map_some, addr_add_plain] at hA
      subst hA
      exact .inl ⟨_, w', some' hv h0 i2, i3⟩
  · rename_i id lo hi' hxe
    rw [hxe] at hxr
    obtain ⟨ℓ, A, cp, hl, hv, hA0, hA1, hcap⟩ := hxr.viewI
    split at hact
    case h_2 => cases hact
    rename_i fl es' mc xs hm
    split at hact
    case isFalse => cases hact
    rename_i hb
    obtain ⟨rfl, hb1, hb2⟩ := hb
    simp only [Option.some.injEq, Prod.mk.injEq] at hact
    obtain ⟨rfl, rfl⟩ := hact
    obtain ⟨ℓ', g1, g2, g3, g4, g5, g6, g7, g8⟩ := h.objs id _ hm
    rw [hl] at g1; obtain rfl := Option.some.inj g1
    have hrl : ∀ y, y ∈ List.replicate (hi' - lo) (cellsOf z) → y.length = i.size := fun y hy => by rw [flat_rep _ _ y hy, hzl]
    have hrf := flat_len hrl
    rw [List.length_replicate] at hrf
    have hfl := flat_len g7
    have hle : lo + (List.replicate (hi' - lo) (cellsOf z)).length ≤ xs.length := by rw [List.length_replicate]; omega
    rcases Nat.eq_zero_or_pos (hi' - lo) with h0 | h0
    · have hxs : lay xs lo (List.replicate (hi' - lo) (cellsOf z)) = xs := by
        rw [h0]; simp [lay]
      rw [hxs]
      refine .inl ⟨_, w, none' hv (.inr h0), σ, F, ?_, .tup rfl (fun k u v hk => by simp at hk), Mono.refl _ _, Sub.refl _, fun id hid => .inl hid⟩
      exact h.same (h.objs id _ hm) (fun g hg => ⟨_, hm, hg⟩)
    · obtain ⟨g, w', i1, i2, i3⟩ := good_zero (P := P) (nid := nid) (lo := lo) (n := hi' - lo) (ys := lay xs lo (List.replicate (hi' - lo) (cellsOf z))) h hm hzs hz1 hzlit hl h0 (by omega) (lay_len _ _ _ hle) (fun y hy => by
          simp only [lay, List.mem_append] at hy
          rcases hy with (hy | hy) | hy
          · exact g7 y (List.mem_of_mem_take hy)
          · exact hrl y hy
          · exact g7 y (List.mem_of_mem_drop hy)) (fun q u hq => by
        rw [lay_flat g7 hrl, lay_get _ _ _ (by rw [hrf, hfl, ← Nat.add_mul]; exact Nat.mul_le_mul_right _ (by omega)), hrf] at hq
        by_cases q1 : q < lo * i.size
        · rw [if_pos q1] at hq; rw [if_neg (by omega)]; exact hq
        · rw [if_neg q1] at hq
          by_cases q2 : q < lo * i.size + (hi' - lo) * i.size
          · rw [if_pos q2] at hq; rw [if_pos ⟨by omega, q2⟩]; exact hq
          · rw [if_neg q2] at hq; rw [if_neg (by omega)]; exact hq)
      have hA := hA1 (by omega)
      rw [i1, g2] at hA
      simp only [Option.map_some, addr_add_plain] at hA
      subst hA
      exact .inl ⟨_, w', some' hv h0 i2, i3⟩
  · cases hact

/-- THE ONE LAW OF OPERATIONS (but for calls). -/
theorem act_good (h : Inv C w σ F m) (he : EnvR w σ F e a.tmps) (hn : σ nid = none) (o : Oper) (hact : act nid m ((opOf P o).map (AOpd.get e)) = some (av, ups)) : OpGood P o a C w σ F m nid ups av := by
  have bad : opOf P o = .bad → OpGood P o a C w σ F m nid ups av := fun hb => by rw [hb] at hact; simp [AOp.map, act] at hact
  cases hop : o.op with
  | move x => exact op_mv h he (.inl hop) (by simpa only [opOf, hop] using hact)
  | assign x => exact op_mv h he (.inr hop) (by simpa only [opOf, hop] using hact)
  | pick c x y => exact op_pick h he hop hact
  | alloc t => exact op_new h he hn hop hact
  | box t x => exact op_box h he hn hop hact
  | build t ps => exact op_build h he hop hact
  | buildSlice t n ps => exact op_rowOf h he hn hop hact
  | load t x => exact op_ld h he hop hact
  | store t x y => exact op_st h he hop hact
  | nilCheck x => exact op_nc h he hop hact
  | binOp op t x y t' => exact op_bin h he hop hact
  | unOp op t x => exact op_un h he hop hact
  | convert s d x => exact op_cv h he hop hact
  | makeFunc f fs cs => exact op_mf h he hop hact
  | makeSlice t l c => exact op_mk h he hn hop hact
  | slice t x lo hi mx => exact op_sl h he hop hact
  | fieldAddr t x k => exact op_fa h he hop hact
  | field t x k => exact op_fd h he hop hact
  | indexAddr t x i => exact op_ia h he hop hact
  | index t x i => exact op_ix h he hop hact
  | extract x i => exact op_ex h he hop hact
  | call c =>
    cases hc : c.callee with
    | value f => simp [opOf, hop, hc, AOp.map, act] at hact
    | invoke r n => exact bad (by simp [opOf, hop, hc])
    | builtin b =>
      simp only [opOf, hop, hc] at hact
      split at hact
      · rename_i x y t u ha hty
        have ha' : c.args = #[x, y] := by apply Array.ext'; simpa using ha
        have ht' : c.argTypes = #[t, u] := by apply Array.ext'; simpa using hty
        split at hact
        · rename_i e' es bytes z hel
          split at hact
          · rename_i htu
            subst htu
            exact op_ap h he hn hop hc ha' ht' hel hact
          · split at hact
            · rename_i k huu
              exact op_apz h he hn hop hc ha' ht' hel huu hact
            · simp [AOp.map, act] at hact
        · simp [AOp.map, act] at hact
      · rename_i x t ha hty
        have ha' : c.args = #[x] := by apply Array.ext'; simpa using ha
        have ht' : c.argTypes = #[t] := by apply Array.ext'; simpa using hty
        split at hact
        · rename_i hu; exact op_len (str := true) h he hop hc ha' ht' (by simpa using hu) hact
        · rename_i e' hu; exact op_len (str := false) h he hop hc ha' ht' (by simpa using ⟨e', hu⟩) hact
        · simp [AOp.map, act] at hact
      · rename_i x t ha hty
        have ha' : c.args = #[x] := by apply Array.ext'; simpa using ha
        have ht' : c.argTypes = #[t] := by apply Array.ext'; simpa using hty
        split at hact
        · rename_i e' hu; exact op_cap h he hop hc ha' ht' hu hact
        · simp [AOp.map, act] at hact
      · rename_i x y ha
        have ha' : c.args = #[x, y] := by apply Array.ext'; simpa using ha
        exact op_mxi h he hop hc ha' hact
      · rename_i x y ha
        have ha' : c.args = #[x, y] := by apply Array.ext'; simpa using ha
        exact op_mni h he hop hc ha' hact
      · rename_i x t ha hty
        have ha' : c.args = #[x] := by apply Array.ext'; simpa using ha
        have ht' : c.argTypes = #[t] := by apply Array.ext'; simpa using hty
        split at hact
        · rename_i e' es bytes z hel; exact op_clr h he hop hc ha' ht' hel hact
        · simp [AOp.map, act] at hact
      · simp [AOp.map, act] at hact
  | _ => exact bad (by simp only [opOf, hop])
end
end Go.Eng
