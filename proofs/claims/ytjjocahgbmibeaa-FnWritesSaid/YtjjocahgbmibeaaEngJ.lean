/- Operations: conversions, made slices, slice expressions, elements, appends, clear. -/
import Derived.Test.YtjjocahgbmibeaaEngI
namespace Go.Eng
set_option linter.unusedVariables false
set_option linter.unusedSimpArgs false

theorem bytes_foldl : ∀ (ns : List Nat) (s : ByteArray), ns.foldl (fun r n => r.push (UInt8.ofNat n)) s = ⟨s.data ++ (ns.map fun n => UInt8.ofNat n).toArray⟩
  | [], s => by simp
  | n :: ns, s => by
    rw [List.foldl_cons, bytes_foldl ns]
    simp [ByteArray.push]
section
variable {P : Program} {C : Ctx} {w w' : World} {σ σ' : Sig} {F F' : Nat → Prop} {m : Mem} {nid : Nat} {ups : Ups} {av : AV} {v : Value} {e : Nat → AV} {a : Act}

theorem byteCell_ok {c : List AV} {n : Nat} (h : byteCell c = some n) : ∃ k : Int, c = [.i .u8 k] ∧ k.toNat = n := by
  unfold byteCell at h
  split at h
  · split at h
    · exact ⟨_, rfl, Option.some.inj h⟩
    · cases h
  · cases h
theorem bytes_vals : ∀ (xs : List (List AV)) (ns : List Nat) (vs : List Value), xs.mapM byteCell = some ns → vs.length = xs.flatten.length → (∀ (q : Nat) u v, xs.flatten[q]? = some u → vs[q]? = some v → RelF w F u v) →
    ∃ ks : List Int, vs = ks.map (Value.int .u8) ∧ ks.map Int.toNat = ns
  | [], ns, vs, hm, hl, hr => by
    have : ns = [] := by simpa using hm.symm
    subst this
    have : vs = [] := List.eq_nil_of_length_eq_zero (by simpa using hl)
    subst this
    exact ⟨[], rfl, rfl⟩
  | c :: xs, ns, vs, hm, hl, hr => by
    simp only [List.mapM_cons, Option.bind_eq_bind, Option.bind_eq_some_iff, Option.pure_def, Option.some.injEq] at hm
    obtain ⟨n, hn, ns', hns, rfl⟩ := hm
    obtain ⟨k, rfl, hk⟩ := byteCell_ok hn
    match vs with
    | [] => simp at hl
    | v :: vs =>
      have h0 := hr 0 (.i .u8 k) v (by simp) rfl
      cases h0
      obtain ⟨ks, h1, h2⟩ := bytes_vals xs ns' vs hns (by simpa using hl) (fun q u v hu hv => hr (q + 1) u v (by simpa using hu) hv)
      exact ⟨k :: ks, by simp [h1], by simp [h2, hk]⟩
theorem op_cv (h : Inv C w σ F m) (he : EnvR w σ F e a.tmps) {o : Oper} {s d : TypeId} {x : Operand} (ho : o.op = .convert s d x) (hact : act nid m ((opOf P o).map (AOpd.get e)) = some (av, ups)) : OpGood P o a C w σ F m nid ups av := by
  simp only [opOf, ho] at hact
  have hx := opd_rel he x
  split at hact
  · -- numbers
    rename_i k0 k hs hd
    simp only [AOp.map, act] at hact
    split at hact
    · rename_i k1 n hxe
      rw [hxe] at hx
      simp only [Option.some.injEq, Prod.mk.injEq] at hact
      obtain ⟨rfl, rfl⟩ := hact
      exact quiet h (.fz .i) (by simp [execOp, ho, hx.iI, convert, run_underlying hs, run_underlying hd, Conv.intToInt])
    · cases hact
  · -- bytes to string
    rename_i e' hs hd
    split at hact
    · rename_i he'
      simp only [AOp.map, act, Option.bind_eq_some_iff, Option.some.injEq, Prod.mk.injEq] at hact
      obtain ⟨p, hp, st, hst, rfl, rfl⟩ := hact
      obtain ⟨A, c, vs, h1, h2, h3⟩ := h.sliceOf_ok (fl := p.1) (xs := p.2) hp hx
      obtain ⟨ns, hns, rfl⟩ := Option.map_eq_some_iff.1 hst
      obtain ⟨ks, h4, h5⟩ := bytes_vals p.2 ns vs hns h3.len h3.rel
      refine quiet h (.fz .s) ?_
      simp only [execOp, ho, Sem.run_bind, h1, run_convert_bytes_string w s d e' A _ c hs he' hd]
      have hlen : vs.length = p.2.length := by rw [h3.len, flat_len h3.es, Nat.mul_one]
      cases A with
      | none =>
        have hnil : p.2 = [] := by
          cases hp2 : p.2 with
          | nil => rfl
          | cons y ys => obtain ⟨a', ha', _⟩ := h3.at_ (by rw [hp2]; simp); cases ha'
        have : ns = [] := by rw [hnil] at hns; simpa using hns.symm
        subst this
        simp [Conv.bytesToString]
        rfl
      | some ad =>
        have hl : (loadCells ad p.2.length).run P w = .ok (ks.map (Value.int .u8)).toArray w := by
          have hc : ∀ (j : Nat) v, vs[j]? = some v → w.cell? (ad.add j) = some v := by
            intro j v hj
            have hne : p.2 ≠ [] := fun e => by rw [e] at hlen; have := (List.getElem?_eq_some_iff.1 hj).1; rw [hlen] at this; simp at this
            obtain ⟨a', ha', hcell⟩ := h3.at_ hne
            obtain rfl := Option.some.inj ha'
            exact hcell j v hj
          have := run_loadCells_list (P := P) w ad vs hc
          rw [hlen] at this
          rw [this, h4]
        rw [run_bytesToString w ad p.2.length c ks hl]
        have : ks.foldl (fun r n => r.push (UInt8.ofNat n.toNat)) ByteArray.empty = ⟨(ns.map fun n => UInt8.ofNat n).toArray⟩ := by
          rw [← h5, ← List.foldl_map (f := Int.toNat) (g := fun (r : ByteArray) n => r.push (UInt8.ofNat n)), bytes_foldl]
          simp [ByteArray.empty, ByteArray.emptyWithCapacity]
          rfl
        rw [this]
        simp
    · simp [AOp.map, act] at hact
  · -- string to bytes
    rename_i e' hs hd
    split at hact
    · rename_i he'
      simp only [AOp.map, act] at hact
      split at hact
      · rename_i st hxe
        rw [hxe] at hx
        simp only [Option.some.injEq, Prod.mk.injEq] at hact
        obtain ⟨rfl, rfl⟩ := hact
        have hrun := Lib.run_convert_string_bytes (P := P) w s d e' st hs hd he'
        let F' : Nat → Prop := fun k => F k ∨ k = w.heap.size
        have hturn : Turns w (Lib.bytesWorld w e' st) (fun _ => False) := ⟨rfl, rfl, rfl, by rw [Lib.bytesWorld_size]; omega, fun k hk _ => Lib.bytesWorld_at_old w e' st k hk⟩
        have hmono : Mono w F (Lib.bytesWorld w e' st) F' := fun k hk => ⟨.inl hk, hturn.block k (h.fnew k hk).1 (fun hf => hf)⟩
        refine .inl ⟨.slice (some ⟨w.heap.size, 0, none⟩) st.size (grownCap w st.size 0 e'), Lib.bytesWorld w e' st, by simp only [execOp, ho, Sem.run_bind, hx.sI, hrun, Result.andThen_ok, Sem.run_pure], σ, F', ?_, .fz ?_, hmono, Sub.refl _, fun id hid => .inl hid⟩
        · refine h.go (fun _ => False) (fun _ => False) hturn (fun k hk => hk.elim) (fun k hk => .inl hk) (Sub.refl _) (fun k hk => ?_) (fun k hk => rfl)
            (fun k o2 g2 hk ho hg2 => ⟨fun he => he, fun hF => ?_⟩) (fun k o2 hk ho => hk.elim) (fun k k' o1 o2 g2 hk => hk.elim)
          · rcases hk with hk | rfl
            · exact .inl hk
            · exact .inr ⟨by rw [Lib.bytesWorld_size]; omega, .inr h.kept.size⟩
          · rcases hF with hF | rfl
            · exact (hg2.lt (h.objs k o2 ho)).2.1 hF
            · exact Nat.lt_irrefl _ (hg2.lt (h.objs k o2 ho)).1
        · have hlen : (cellsBytes st).length = st.size := by simp [cellsBytes]
          have hes : ∀ x, x ∈ cellsBytes st → x.length = 1 := fun x hx => by
            obtain ⟨b, _, rfl⟩ := List.mem_map.1 hx; rfl
          have hfl : (cellsBytes st).flatten = st.data.toList.map fun x => AV.i .u8 (x.toNat : Int) := by
            unfold cellsBytes
            induction st.data.toList with
            | nil => rfl
            | cons b l ih => simp [ih]
          have hcap : st.size ≤ grownCap w st.size 0 e' := by simp [grownCap, Question.cut]
          have := RelF.fro (w := Lib.bytesWorld w e' st) (F := F') (fl := true) (es := 1) (xs := cellsBytes st) (A := some ⟨w.heap.size, 0, none⟩) (c := grownCap w st.size 0 e') (st.data.toList.map fun x => Value.int .u8 (x.toNat : Int)) hes (by rw [hlen]; exact hcap) (by rw [hfl]; simp)
            (fun _ => ⟨_, rfl, .inr rfl, fun q v hq => ?_⟩) (fun q u v hu hv => ?_)
          · rw [hlen] at this; exact this
          · rw [addr_add_plain]
            have hlt : q < st.size := by
              have := (List.getElem?_eq_some_iff.1 hq).1
              simpa using this
            rw [Lib.bytesWorld_cell w e' st q hlt]
            rw [List.getElem?_map] at hq
            have hlt' : q < st.data.toList.length := by simpa using hlt
            rw [List.getElem?_eq_getElem hlt'] at hq
            rw [List.getD_eq_getElem?_getD, List.getElem?_eq_getElem hlt']
            exact hq
          · rw [hfl, List.getElem?_map] at hu
            rw [List.getElem?_map] at hv
            cases hk : st.data.toList[q]? with
            | none => rw [hk] at hu; cases hu
            | some b =>
              rw [hk] at hu hv
              obtain rfl := Option.some.inj hu
              obtain rfl := Option.some.inj hv
              exact .i
      · cases hact
    · simp [AOp.map, act] at hact
  · simp [AOp.map, act] at hact
theorem op_mk (h : Inv C w σ F m) (he : EnvR w σ F e a.tmps) (hn : σ nid = none) {o : Oper} {t : TypeId} {l c : Operand} (ho : o.op = .makeSlice t l c) (hact : act nid m ((opOf P o).map (AOpd.get e)) = some (av, ups)) : OpGood P o a C w σ F m nid ups av := by
  simp only [opOf, ho] at hact
  split at hact
  case h_2 => simp [AOp.map, act] at hact
  rename_i e' es bytes z hel
  obtain ⟨hu, i, hi, hz, rfl, rfl, hes0, hby0, hzs, hz1⟩ := elemOf_ok hel
  simp only [AOp.map, act] at hact
  split at hact
  case h_2 => cases hact
  rename_i k1 n1 k2 n2 hle hce
  split at hact
  case isFalse => cases hact
  rename_i hc
  obtain ⟨h0, h1, h2, h3, hzl, hzlit⟩ := hc
  simp only [Option.some.injEq, Prod.mk.injEq] at hact
  obtain ⟨rfl, rfl⟩ := hact
  have hl := opd_rel he l
  have hcc := opd_rel he c
  rw [hle] at hl; rw [hce] at hcc
  have hrun := run_make (P := P) w t e' i z hu hi hz k1 k2 n1 n2 h0 h1 (by omega) h3
  have hnat : n1.toNat ≤ n2.toNat := Int.toNat_le_toNat h1
  have hg := good_row h hn (fl := true) (es := i.size) (mc := n2.toNat) (cap := n2.toNat) (xs := List.replicate n1.toNat (cellsOf z)) (arr := madeCells z.cells (n2.toNat * i.size)) e'
    (fun x hx => by rw [flat_rep _ _ x hx, hzl]) (Nat.le_refl _) (by simpa using hnat) (by simp only [maxLen]; omega) (size_madeCells _ _)
    (by
      have := made_rows (w := w) hzs hz1 hzlit (n := n1.toNat) (n2.toNat * i.size) (Nat.mul_le_mul_right _ hnat) (FF true F)
      exact this)
  refine .inl ⟨_, _, ?_, hg⟩
  simp only [execOp, ho, Sem.run_bind, hl.iI, hcc.iI, hrun, Result.andThen_ok, Sem.run_pure, List.length_replicate]
theorem op_ia (h : Inv C w σ F m) (he : EnvR w σ F e a.tmps) {o : Oper} {t : TypeId} {x y : Operand} (ho : o.op = .indexAddr t x y) (hact : act nid m ((opOf P o).map (AOpd.get e)) = some (av, ups)) : OpGood P o a C w σ F m nid ups av := by
  simp only [opOf, ho] at hact
  split at hact
  case h_2 => simp [AOp.map, act] at hact
  rename_i e' es bytes z hel
  obtain ⟨hu, i, hi, hz, rfl, rfl, hes0, hby0, hzs, hz1⟩ := elemOf_ok hel
  have hel' : P.elem t = e' := by simp [Program.elem, hu]
  have hx := opd_rel he x
  have hy := opd_rel he y
  simp only [AOp.map, act] at hact
  split at hact
  case h_2 => cases hact
  rename_i k n hye
  rw [hye] at hy
  have hrun : ∀ (ad : Addr) (len cap : Nat), 0 ≤ n → n < len → (execOp a.eval o).run P w = ((Instr.indexAt t (a.eval x) (.int k n)).run P w).andThen (fun v w => .ok (.value v) w) := by
    intro ad len cap _ _
    simp only [execOp, ho, Sem.run_bind, hy.iI, Sem.run_pure]
  have hat : ∀ (ad : Addr) (len cap : Nat), 0 ≤ n → n < len → a.eval x = .slice (some ad) len cap → (execOp a.eval o).run P w = .ok (.value (.pointer (some (ad.add (n.toNat * i.size))))) w := by
    intro ad len cap g0 g1 hv
    rw [hrun ad len cap g0 g1, hv]
    simp [Instr.indexAt, asIntOf, run_underlying hu, g0, g1, sizeOf, typeInfo, hi]
  split at hact
  · rename_i fl es' xs hxe
    rw [hxe] at hx
    split at hact
    case isFalse => cases hact
    rename_i hes
    subst hes
    simp only [Option.bind_eq_some_iff, Option.some.injEq, Prod.mk.injEq] at hact
    obtain ⟨c, hc, rfl, rfl⟩ := hact
    unfold getI at hc
    split at hc
    case isFalse => cases hc
    rename_i h0
    obtain ⟨A, cap, vs, h1, h2, h3, h4⟩ := hx.froI.reads
    have hlt := (List.getElem?_eq_some_iff.1 hc).1
    obtain ⟨ad, rfl, hF⟩ := h4 (fun e => by rw [e] at hlt; simp at hlt)
    obtain ⟨ad', hA, hcell⟩ := h3.at_ (fun e => by rw [e] at hlt; simp at hlt)
    obtain rfl := Option.some.inj hA
    have hlt2 : n < (xs.length : Int) := by omega
    have hcl := h3.es c (List.mem_of_getElem? hc)
    have hle : n.toNat * i.size + i.size ≤ xs.length * i.size := by rw [← Nat.succ_mul]; exact Nat.mul_le_mul_right _ hlt
    have hfl := flat_len h3.es
    refine quiet h (.fz (.fptr (j := 0) (p := ad.add (n.toNat * i.size)) ((vs.drop (n.toNat * i.size)).take i.size) ?_ (by rw [addr_add_block]; exact hF) (fun q v hq => ?_) (fun q u v hu hv => ?_))) ?_
    · rw [List.length_take, List.length_drop, h3.len, hfl, hcl]; omega
    · rw [addr_add_add]
      rw [List.getElem?_take] at hq
      split at hq
      · exact hcell _ v (by rwa [List.getElem?_drop] at hq)
      · cases hq
    · rw [List.getElem?_take] at hv
      split at hv
      · rename_i hq
        rw [List.getElem?_drop] at hv
        rw [← flat_get h3.es hc hq] at hu
        refine (h3.rel _ u v hu hv).mono ?_
        cases fl
        · exact Mono.refl _ _
        · exact mono_noF _ _ _
      · cases hv
    · rw [addr_add_add, Nat.add_zero]
      exact hat ad xs.length cap h0 hlt2 h1
  · rename_i id hxe
    rw [hxe] at hx
    obtain ⟨ℓ, hl, hv⟩ := hx.rowI
    split at hact
    · rename_i fl es' mc xs hm
      split at hact
      case isFalse => cases hact
      rename_i hc
      obtain ⟨rfl, h0, h1⟩ := hc
      simp only [Option.some.injEq, Prod.mk.injEq] at hact
      obtain ⟨rfl, rfl⟩ := hact
      obtain ⟨ℓ', vs, g1, g2, g3, g4, g5, g6, g7, _⟩ := h.readRow hm
      rw [hl] at g1; obtain rfl := Option.some.inj g1
      obtain ⟨ad, hA, _⟩ := g7.at_ (fun e => by rw [e] at h1; simp at h1; omega)
      refine quiet h (.elt hl hA) ?_
      rw [g2, Nat.add_zero]
      exact hat ad ℓ.len ℓ.cap h0 (by rw [g3]; exact h1) (by rw [hv, hA])
    · rename_i fl es' xs hm
      split at hact
      case isFalse => cases hact
      rename_i hc
      obtain ⟨rfl, h0, h1⟩ := hc
      simp only [Option.some.injEq, Prod.mk.injEq] at hact
      obtain ⟨rfl, rfl⟩ := hact
      obtain ⟨ℓ', vs, g1, g2, g3, g5, g7, _⟩ := h.readFrow hm
      rw [hl] at g1; obtain rfl := Option.some.inj g1
      obtain ⟨ad, hA, _⟩ := g7.at_ (fun e => by rw [e] at h1; simp at h1; omega)
      refine quiet h (.elt hl hA) ?_
      rw [g2, Nat.add_zero]
      exact hat ad ℓ.len ℓ.cap h0 (by rw [g3]; exact h1) (by rw [hv, hA])
    · cases hact
  · rename_i id lo hi' hxe
    rw [hxe] at hx
    obtain ⟨ℓ, A, cap, hl, hv, hA0, hA1, hcap⟩ := hx.viewI
    have fin : ∀ {es' : Nat} {xs : List (List AV)} {vs : List Value} {G : Nat → Prop}, ℓ.es = es' → es' = i.size → hi' ≤ xs.length → 0 ≤ n → n < ((hi' - lo : Nat) : Int) → Reads' w G es' xs ℓ.A vs →
        OpGood P o a C w σ F m nid [] (.elt id (lo + n.toNat) 0) := by
      intro es' xs vs G g2 ges hle h0 h1 g7
      have hlt : lo < hi' := by omega
      obtain ⟨ad, hA, _⟩ := g7.at_ (fun e => by rw [e] at hle; simp at hle; omega)
      refine quiet h (.elt hl hA) ?_
      rw [Nat.add_mul, Nat.add_zero, ← addr_add_add, g2, ges]
      refine hat (ad.add (lo * i.size)) (hi' - lo) cap h0 h1 ?_
      rw [hv, hA1 hlt, hA, g2, ges]; rfl
    split at hact
    · rename_i fl es' mc xs hm
      split at hact
      case isFalse => cases hact
      rename_i hc
      simp only [Option.some.injEq, Prod.mk.injEq] at hact
      obtain ⟨rfl, rfl⟩ := hact
      obtain ⟨ℓ', vs, g1, g2, g3, g4, g5, g6, g7, _⟩ := h.readRow hm
      rw [hl] at g1; obtain rfl := Option.some.inj g1
      exact fin g2 hc.1 hc.2.1 hc.2.2.1 hc.2.2.2 g7
    · rename_i fl es' xs hm
      split at hact
      case isFalse => cases hact
      rename_i hc
      simp only [Option.some.injEq, Prod.mk.injEq] at hact
      obtain ⟨rfl, rfl⟩ := hact
      obtain ⟨ℓ', vs, g1, g2, g3, g5, g7, _⟩ := h.readFrow hm
      rw [hl] at g1; obtain rfl := Option.some.inj g1
      exact fin g2 hc.1 hc.2.1 hc.2.2.1 hc.2.2.2 g7
    · cases hact
  · cases hact
end
end Go.Eng
