/- Operations: slice expressions, appends, clear. -/
import Derived.Test.YtjjocahgbmibeaaEngJ
import Derived.Laws.Slices
namespace Go.Eng
set_option linter.unusedVariables false
set_option linter.unusedSimpArgs false

section
variable {P : Program} {C : Ctx} {w w' : World} {σ σ' : Sig} {F F' : Nat → Prop} {m : Mem} {nid : Nat} {ups : Ups} {av : AV} {v : Value} {e : Nat → AV} {a : Act}

theorem bnd_ok (he : EnvR w σ F e a.tmps) {d : Nat} {x : Option Operand} {n : Nat} (h : bndOf d ((x.map opd).map (AOpd.get e)) = some n) : (x = none ∧ n = d) ∨ ∃ y k i, x = some y ∧ a.eval y = .int k i ∧ 0 ≤ i ∧ n = i.toNat := by
  cases x with
  | none => exact .inl ⟨rfl, by simpa [bndOf] using h.symm⟩
  | some y =>
    simp only [Option.map_some] at h
    unfold bndOf at h
    split at h
    · rename_i hc; cases hc
    · rename_i k i hc
      split at h
      · rename_i h0
        have hy := opd_rel (σ := σ) (F := F) he y
        rw [Option.some.inj hc] at hy
        exact .inr ⟨y, k, i, rfl, hy.iI, h0, (Option.some.inj h).symm⟩
      · cases h
    · cases h
theorem run_bounds {isS : Bool} {len cap l h c : Nat} {lo hi mx : Option Operand} {d : Nat}
    (hlo : (lo = none ∧ l = 0) ∨ ∃ y k i, lo = some y ∧ a.eval y = .int k i ∧ 0 ≤ i ∧ l = i.toNat)
    (hhi : (hi = none ∧ h = len) ∨ ∃ y k i, hi = some y ∧ a.eval y = .int k i ∧ 0 ≤ i ∧ h = i.toNat)
    (hmx : (mx = none ∧ c = d) ∨ ∃ y k i, mx = some y ∧ a.eval y = .int k i ∧ 0 ≤ i ∧ c = i.toNat)
    (hmh : ¬ (mx.isSome = true ∧ hi.isNone = true)) (h1 : l ≤ h) (h2 : mx = none → h ≤ cap) (h3 : mx.isSome = true → h ≤ c ∧ c ≤ cap) :
    (Instr.sliceBounds isS len cap (lo.map a.eval) (hi.map a.eval) (mx.map a.eval)).run P w = .ok (l, h, if mx.isSome = true then c else cap) w := by
  rcases hmx with ⟨rfl, rfl⟩ | ⟨ym, km, im, rfl, em, m0, rfl⟩
  · have h2 := h2 rfl
    rcases hhi with ⟨rfl, rfl⟩ | ⟨yh, kh, ih, rfl, eh, h0, rfl⟩ <;> rcases hlo with ⟨rfl, rfl⟩ | ⟨yl, kl, il, rfl, el, l0, rfl⟩
    · simp [Instr.sliceBounds]
    · simp [Instr.sliceBounds, el, run_sliceBound w kl il _ _ l0 (show il ≤ ((h : Nat) : Int) by omega)]
    · simp [Instr.sliceBounds, eh, run_sliceBound w kh ih _ _ h0 (show ih ≤ ((cap : Nat) : Int) by omega)]
    · have e1 : il ≤ ((ih.toNat : Nat) : Int) := by omega
      simp only [Instr.sliceBounds, Option.map_some, Option.map_none, eh, el, Sem.run_bind, Sem.run_pure, Result.andThen_ok, run_sliceBound w kh ih _ _ h0 (show ih ≤ ((cap : Nat) : Int) by omega), run_sliceBound w kl il _ _ l0 e1]
      simp
  · have h3 := h3 rfl
    rcases hhi with ⟨rfl, rfl⟩ | ⟨yh, kh, ih, rfl, eh, h0, rfl⟩
    · exact (hmh ⟨rfl, rfl⟩).elim
    · have e0 : im ≤ ((cap : Nat) : Int) := by omega
      have e1 : ih ≤ ((im.toNat : Nat) : Int) := by omega
      rcases hlo with ⟨rfl, rfl⟩ | ⟨yl, kl, il, rfl, el, l0, rfl⟩
      · simp only [Instr.sliceBounds, Option.map_some, Option.map_none, eh, em, Sem.run_bind, Sem.run_pure, Result.andThen_ok, run_sliceBound w km im _ _ m0 e0, run_sliceBound w kh ih _ _ h0 e1]
        simp
      · have e2 : il ≤ ((ih.toNat : Nat) : Int) := by omega
        simp only [Instr.sliceBounds, Option.map_some, Option.map_none, eh, em, el, Sem.run_bind, Sem.run_pure, Result.andThen_ok, run_sliceBound w km im _ _ m0 e0, run_sliceBound w kh ih _ _ h0 e1, run_sliceBound w kl il _ _ l0 e2]
        simp
theorem run_sl {o : Oper} {t e' : TypeId} {x : Operand} {lo hi mx : Option Operand} {A : Option Addr} {len cap l h c d es : Nat} (ho : o.op = .slice t x lo hi mx) (hu : P.underlying t = some (.slice e')) (hsz : szOf P e' = some es) (hx : a.eval x = .slice A len cap)
    (hlo : (lo = none ∧ l = 0) ∨ ∃ y k i, lo = some y ∧ a.eval y = .int k i ∧ 0 ≤ i ∧ l = i.toNat)
    (hhi : (hi = none ∧ h = len) ∨ ∃ y k i, hi = some y ∧ a.eval y = .int k i ∧ 0 ≤ i ∧ h = i.toNat)
    (hmx : (mx = none ∧ c = d) ∨ ∃ y k i, mx = some y ∧ a.eval y = .int k i ∧ 0 ≤ i ∧ c = i.toNat)
    (hmh : ¬ (mx.isSome = true ∧ hi.isNone = true)) (h1 : l ≤ h) (h2 : mx = none → h ≤ cap) (h3 : mx.isSome = true → h ≤ c ∧ c ≤ cap) :
    (execOp a.eval o).run P w = .ok (.value (sliced A l h (if mx.isSome = true then c else cap) es)) w := by
  obtain ⟨i, hi', rfl⟩ := szOf_ok hsz
  have hel : P.elem t = e' := by simp [Program.elem, hu]
  have hs : (sizeOf e').run P w = .ok i.size w := by simp [sizeOf, typeInfo, hi']
  simp only [execOp, ho, Sem.run_bind, hx, run_sliceAt_slice w t _ _ _ _ (by rw [hel]; exact hu), run_slice_any w t A len cap (by rw [hel]; exact hu), run_bounds (P := P) (isS := true) hlo hhi hmx hmh h1 h2 h3, Result.andThen_ok, hel, hs, Sem.run_pure]
theorem op_sl (h : Inv C w σ F m) (he : EnvR w σ F e a.tmps) {o : Oper} {t : TypeId} {x : Operand} {lo hi mx : Option Operand} (ho : o.op = .slice t x lo hi mx) (hact : act nid m ((opOf P o).map (AOpd.get e)) = some (av, ups)) : OpGood P o a C w σ F m nid ups av := by
  simp only [opOf, ho] at hact
  have hx := opd_rel he x
  split at hact
  case h_3 => simp [AOp.map, act] at hact
  · -- a string
    rename_i hu
    simp only [AOp.map, act, Option.bind_eq_some_iff, Option.some.injEq, Prod.mk.injEq] at hact
    obtain ⟨v, hv, rfl, rfl⟩ := hact
    unfold slOf at hv
    split at hv
    · cases hv
    rename_i hmh
    split at hv
    · rename_i s hxe
      rw [hxe] at hx
      split at hv
      case isFalse => cases hv
      rename_i hc
      simp only [Option.bind_eq_some_iff] at hv
      obtain ⟨hh, hhi, l, hlo, hv⟩ := hv
      split at hv
      case isFalse => cases hv
      rename_i hb
      obtain rfl := Option.some.inj hv
      have hmx : mx = none := by cases mx <;> simp_all
      subst hmx
      have hlo' := bnd_ok he hlo
      have hhi' := bnd_ok he hhi
      refine quiet h (.fz .s) ?_
      have := run_bounds (P := P) (w := w) (isS := false) (len := s.size) (cap := s.size) (c := 0) (d := 0) (mx := none) hlo' hhi' (.inl ⟨rfl, rfl⟩) (by simp) hb.1 (fun _ => hb.2) (by simp)
      simp only [Option.map_none] at this
      simp [execOp, ho, hx.sI, Instr.sliceAt, run_underlying hu, Instr.slice, this]
    · simp at hv
    · simp at hv
    · split at hv <;> simp at hv
    · split at hv <;> simp at hv
    · cases hv
  · rename_i e' hu
    split at hact
    case h_2 => simp [AOp.map, act] at hact
    rename_i es hsz
    split at hact
    case isFalse => simp [AOp.map, act] at hact
    rename_i hes0
    simp only [AOp.map, act, Option.bind_eq_some_iff, Option.some.injEq, Prod.mk.injEq] at hact
    obtain ⟨v, hv, rfl, rfl⟩ := hact
    unfold slOf at hv
    split at hv
    · cases hv
    rename_i hmh
    have hmh' : ¬ (mx.isSome = true ∧ hi.isNone = true) := by cases mx <;> cases hi <;> simp_all
    have hmxn : ((mx.map opd).map (AOpd.get e)).isNone = true ↔ mx = none := by cases mx <;> simp
    -- a part of frozen memory
    have fz : ∀ {fl : Bool} {xs : List (List AV)} {A : Option Addr} {cap l hh c : Nat}, RelF w F (.fro fl es xs) (.slice A xs.length cap) → a.eval x = .slice A xs.length cap → bndOf xs.length ((hi.map opd).map (AOpd.get e)) = some hh →
        bndOf 0 ((lo.map opd).map (AOpd.get e)) = some l → bndOf xs.length ((mx.map opd).map (AOpd.get e)) = some c → l ≤ hh → hh ≤ c → c ≤ xs.length →
        OpGood P o a C w σ F m nid [] (if ((mx.map opd).map (AOpd.get e)).isNone = true then .fro fl es ((xs.take hh).drop l) else if c = l then .emp else .junk) := by
      intro fl xs A cap l hh c hr hxv hhi hlo hmx b1 b2 b3
      obtain ⟨A', cap', vs, g1, g2, g3, g4⟩ := hr.reads
      simp only [Value.slice.injEq] at g1
      obtain ⟨rfl, _, rfl⟩ := g1
      have hrun := run_sl (P := P) (w := w) ho hu hsz hxv (bnd_ok he hlo) (bnd_ok he hhi) (bnd_ok he hmx) hmh' b1 (fun hn => by omega) (fun _ => ⟨b2, by omega⟩)
      refine quiet h ?_ hrun
      by_cases hn : mx = none
      · subst hn
        simp only [Option.map_none, Option.isNone_none, if_true, Option.isSome_none, Bool.false_eq_true, if_false]
        have hlen := part_len xs l hh (by omega)
        unfold sliced
        have := (g3.part l hh b1 (by omega) (A' := if cap = l then A else A.map (·.add (l * es))) (fun hlt => by rw [if_neg (by omega)])).fro (c := cap - l) (by rw [hlen]; omega) (fun hne => by
          have hlt : l < hh := by
            rcases Nat.lt_or_ge l hh with hlt | hge
            · exact hlt
            · exfalso; apply hne; apply List.drop_eq_nil_of_le; rw [List.length_take]; omega
          obtain ⟨ad, hA, hF⟩ := g4 (fun e => by rw [e] at b3; simp at b3; omega)
          exact ⟨ad.add (l * es), by rw [if_neg (by omega), hA]; rfl, by rw [addr_add_block]; exact hF⟩)
        rw [hlen] at this
        exact .fz this
      · have hs : mx.isSome = true := by cases mx <;> simp_all
        rw [if_neg (fun hf => hn (hmxn.1 hf)), if_pos hs]
        split
        · rename_i hcl
          subst hcl
          have : hh = c := by omega
          subst this
          simp only [sliced, Nat.sub_self]
          exact .fz .emp
        · exact .junk
    split at hv
    · rename_i s hxe
      split at hv
      · rename_i hc; omega
      · cases hv
    · -- the empty one
      rename_i hxe
      rw [hxe] at hx
      obtain ⟨A, hxv⟩ := hx.empI
      split at hv
      · cases hv
      simp only [Option.bind_eq_some_iff] at hv
      obtain ⟨c, hmx, hh, hhi, l, hlo, hv⟩ := hv
      split at hv
      case isFalse => cases hv
      rename_i hc
      obtain ⟨rfl, rfl, rfl⟩ := hc
      obtain rfl := Option.some.inj hv
      have hrun := run_sl (P := P) (w := w) ho hu hsz hxv (bnd_ok he hlo) (bnd_ok he hhi) (bnd_ok he hmx) hmh' (Nat.le_refl _) (fun _ => Nat.le_refl _) (fun _ => ⟨Nat.le_refl _, Nat.le_refl _⟩)
      refine quiet h ?_ hrun
      have : (if mx.isSome = true then 0 else 0) = 0 := by split <;> rfl
      rw [this]
      simp only [sliced]
      exact .fz .emp
    · -- frozen
      rename_i fl es' xs hxe
      rw [hxe] at hx
      split at hv
      · cases hv
      rename_i hc
      simp only [not_or, Decidable.not_not] at hc
      obtain ⟨_, rfl⟩ := hc
      simp only [Option.bind_eq_some_iff] at hv
      obtain ⟨hh, hhi, l, hlo, c, hmx, hv⟩ := hv
      split at hv
      case isFalse => cases hv
      rename_i hb
      obtain rfl := Option.some.inj hv
      obtain ⟨A, cap, vs, g1, _⟩ := hx.froI.reads
      have hr := hx.froI
      rw [g1] at hr
      exact fz hr g1 hhi hlo hmx hb.1 hb.2.1 hb.2.2
    · -- a row
      rename_i id hxe
      rw [hxe] at hx
      obtain ⟨ℓ, hl, hxv⟩ := hx.rowI
      split at hv
      · rename_i fl es' mc xs hm
        split at hv
        · cases hv
        rename_i hc
        simp only [not_or, Decidable.not_not] at hc
        obtain ⟨_, rfl⟩ := hc
        simp only [Option.bind_eq_some_iff] at hv
        obtain ⟨hh, hhi, l, hlo, c, hmx, hv⟩ := hv
        obtain ⟨ℓ', vs, g1, g2, g3, g4, g5, g6, g7, _⟩ := h.readRow hm
        rw [hl] at g1; obtain rfl := Option.some.inj g1
        rw [g3] at hxv
        split at hv
        · rename_i hb
          obtain rfl := Option.some.inj hv
          have hrun := run_sl (P := P) (w := w) ho hu hsz hxv (bnd_ok he hlo) (bnd_ok he hhi) (bnd_ok he hmx) hmh' hb.1 (fun hn => by omega) (fun _ => ⟨hb.2.1, by omega⟩)
          refine quiet h ?_ hrun
          by_cases hn : mx = none
          · subst hn
            simp only [Option.map_none, Option.isNone_none, if_true, Option.isSome_none, Bool.false_eq_true, if_false, sliced]
            refine .view hl (fun h0 => ?_) (fun hlt => ?_) (by omega)
            · subst h0
              refine ⟨?_, by omega⟩
              split
              · rfl
              · cases ℓ.A with
                | none => rfl
                | some ad => simp [Addr.add]
            · rw [if_neg (by omega), g2]
          · have hs : mx.isSome = true := by cases mx <;> simp_all
            rw [if_neg (fun hf => hn (hmxn.1 hf)), if_pos hs]
            split
            · rename_i hcl
              subst hcl
              have : hh = c := by omega
              subst this
              simp only [sliced, Nat.sub_self]
              exact .fz .emp
            · exact .junk
        · rename_i hb
          split at hv
          case isFalse => cases hv
          rename_i hb2
          obtain rfl := Option.some.inj hv
          have hn := hmxn.1 hb2.1
          subst hn
          have hrun := run_sl (P := P) (w := w) (mx := none) (c := 0) (d := 0) ho hu hsz hxv (bnd_ok he hlo) (bnd_ok he hhi) (.inl ⟨rfl, rfl⟩) hmh' hb2.2.2.1 (fun hn => by omega) (fun hf => by cases hf)
          refine quiet h ?_ hrun
          simp only [Option.isSome_none, Bool.false_eq_true, if_false, sliced]
          refine .past (lo := l) hl (by omega) (by omega) (fun hlt => ?_)
          rw [if_neg (by omega), g2]
      · rename_i fl es' xs hm
        split at hv
        · cases hv
        rename_i hc
        simp only [not_or, Decidable.not_not] at hc
        obtain ⟨_, rfl⟩ := hc
        simp only [Option.bind_eq_some_iff] at hv
        obtain ⟨hh, hhi, l, hlo, c, hmx, hv⟩ := hv
        obtain ⟨ℓ', g1, g2, g3, g4⟩ := h.objs id _ hm
        rw [hl] at g1; obtain rfl := Option.some.inj g1
        rw [g3] at hxv g4
        split at hv
        case isFalse => cases hv
        rename_i hb
        obtain rfl := Option.some.inj hv
        exact fz g4 hxv hhi hlo hmx hb.1 hb.2.1 hb.2.2
      · cases hv
    · -- a part of a row
      rename_i id lo0 hi0 hxe
      rw [hxe] at hx
      obtain ⟨ℓ, A, cap, hl, hxv, hA0, hA1, hcap⟩ := hx.viewI
      have part : ∀ {l hh : Nat}, ℓ.es = es → mx = none → lo0 ≤ hi0 → bndOf (hi0 - lo0) ((hi.map opd).map (AOpd.get e)) = some hh → bndOf 0 ((lo.map opd).map (AOpd.get e)) = some l → l ≤ hh → hh ≤ hi0 - lo0 → OpGood P o a C w σ F m nid [] (.view id (lo0 + l) (lo0 + hh)) := by
        intro l hh hle hn h00 hhi hlo b1 b2
        subst hn
        have hrun := run_sl (P := P) (w := w) (mx := none) (c := 0) (d := 0) ho hu hsz hxv (bnd_ok he hlo) (bnd_ok he hhi) (.inl ⟨rfl, rfl⟩) hmh' b1 (fun hn => by omega) (fun hf => by cases hf)
        refine quiet h ?_ hrun
        simp only [Option.isSome_none, Bool.false_eq_true, if_false, sliced]
        have e1 : hh - l = lo0 + hh - (lo0 + l) := by omega
        rw [e1]
        refine .view hl (fun h0 => ?_) (fun hlt => ?_) (by omega)
        · have h1 : lo0 = 0 := by omega
          have h2 : l = 0 := by omega
          obtain ⟨q1, q2⟩ := hA0 h1
          subst h2
          refine ⟨?_, by omega⟩
          split
          · exact q1
          · rw [q1]
            cases ℓ.A with
            | none => rfl
            | some ad => simp [Addr.add]
        · rw [if_neg (by omega), hA1 (by omega), hle]
          cases ℓ.A with
          | none => rfl
          | some ad => simp [addr_add_add, Nat.add_mul]
      split at hv
      · rename_i fl es' mc xs hm
        split at hv
        · cases hv
        rename_i hc
        simp only [not_or, Decidable.not_not] at hc
        simp only [Option.bind_eq_some_iff] at hv
        obtain ⟨hh, hhi, l, hlo, hv⟩ := hv
        split at hv
        case isFalse => cases hv
        rename_i hb
        obtain rfl := Option.some.inj hv
        obtain ⟨ℓ', vs, g1, g2, _⟩ := h.readRow hm
        rw [hl] at g1; obtain rfl := Option.some.inj g1
        exact part (g2.trans hc.2.1) (by have := hc.2.2.1; cases mx <;> simp_all) (Nat.not_lt.1 hc.2.2.2) hhi hlo hb.1 hb.2
      · rename_i fl es' xs hm
        split at hv
        · cases hv
        rename_i hc
        simp only [not_or, Decidable.not_not] at hc
        simp only [Option.bind_eq_some_iff] at hv
        obtain ⟨hh, hhi, l, hlo, hv⟩ := hv
        split at hv
        case isFalse => cases hv
        rename_i hb
        obtain rfl := Option.some.inj hv
        obtain ⟨ℓ', vs, g1, g2, _⟩ := h.readFrow hm
        rw [hl] at g1; obtain rfl := Option.some.inj g1
        exact part (g2.trans hc.2.1) (by have := hc.2.2.1; cases mx <;> simp_all) (Nat.not_lt.1 hc.2.2.2) hhi hlo hb.1 hb.2
      · cases hv
    · cases hv
end
end Go.Eng
