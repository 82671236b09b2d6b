/- Operations: numbers, comparisons, conversions, parts, lengths. -/
import Derived.Test.YtjjocahgbmibeaaEngH
namespace Go.Eng
set_option linter.unusedVariables false
set_option linter.unusedSimpArgs false

section
variable {P : Program} {C : Ctx} {w w' : World} {σ σ' : Sig} {F F' : Nat → Prop} {m : Mem} {nid : Nat} {ups : Ups} {av : AV} {v : Value} {e : Nat → AV} {a : Act}

/-- A quiet operation. -/
theorem quiet (h : Inv C w σ F m) {o : Oper} {v : Value} (hr : RelL w σ F av v) (hx : (execOp a.eval o).run P w = .ok (.value v) w) : OpGood P o a C w σ F m nid [] av := .inl ⟨v, w, hx, good_quiet h hr⟩

theorem op_mv (h : Inv C w σ F m) (he : EnvR w σ F e a.tmps) {o : Oper} {x : Operand} (ho : o.op = .move x ∨ o.op = .assign x) (hact : act nid m ((AOp.mv (opd x)).map (AOpd.get e)) = some (av, ups)) : OpGood P o a C w σ F m nid ups av := by
  simp only [AOp.map, act, Option.some.injEq, Prod.mk.injEq] at hact
  obtain ⟨rfl, rfl⟩ := hact
  refine quiet h (opd_rel he x) ?_
  rcases ho with ho | ho <;> simp [execOp, ho]
theorem op_pick (h : Inv C w σ F m) (he : EnvR w σ F e a.tmps) {o : Oper} {c x y : Operand} (ho : o.op = .pick c x y) (hact : act nid m ((opOf P o).map (AOpd.get e)) = some (av, ups)) : OpGood P o a C w σ F m nid ups av := by
  simp only [opOf, ho, AOp.map, act] at hact
  split at hact
  · rename_i t ht
    simp only [Option.some.injEq, Prod.mk.injEq] at hact
    obtain ⟨rfl, rfl⟩ := hact
    have hc := opd_rel he c
    rw [ht] at hc
    have hv := hc.bI
    cases t
    · exact quiet h (opd_rel he y) (by simp [execOp, ho, hv, asBool])
    · exact quiet h (opd_rel he x) (by simp [execOp, ho, hv, asBool])
  · cases hact
theorem op_nc (h : Inv C w σ F m) (he : EnvR w σ F e a.tmps) {o : Oper} {x : Operand} (ho : o.op = .nilCheck x) (hact : act nid m ((opOf P o).map (AOpd.get e)) = some (av, ups)) : OpGood P o a C w σ F m nid ups av := by
  simp only [opOf, ho, AOp.map, act] at hact
  have hx := opd_rel he x
  split at hact
  · rename_i id i j hxe
    simp only [Option.some.injEq, Prod.mk.injEq] at hact
    obtain ⟨rfl, rfl⟩ := hact
    have hx' := hx
    rw [hxe] at hx'
    obtain ⟨ℓ, ad, _, _, hv⟩ := hx'.eltI
    exact quiet h hx (by simp [execOp, ho, hv])
  · rename_i cs j hxe
    simp only [Option.some.injEq, Prod.mk.injEq] at hact
    obtain ⟨rfl, rfl⟩ := hact
    have hx' := hx
    rw [hxe] at hx'
    have hf := hx'.fptrI
    cases hxv : a.eval x with
    | pointer p =>
      rw [hxv] at hf hx
      cases hf
      exact quiet h hx (by simp [execOp, ho, hxv])
    | _ => rw [hxv] at hf; cases hf
  · cases hact
theorem Int.beq_decide (x y : Int) : (x == y) = decide (x = y) := by rw [Bool.eq_iff_iff]; simp
theorem Int.bne_decide (x y : Int) : (x != y) = !decide (x = y) := by rw [bne, Int.beq_decide]
theorem binOp_int (op : BinOp) (t : TypeId) (k : IntKind) (x y : Int) (h1 : op ≠ .shl) (h2 : op ≠ .shr) : binOp op t (.int k x) (.int k y) = (match op with
    | .add | .sub | .mul => Op.intArith op k x y
    | .quo | .rem => Op.intDiv op k x y
    | .and | .or | .xor | .andNot => Op.intBits op k x y
    | _ => Op.intCmp op x y) := by
  cases op <;> first | exact (h1 rfl).elim | exact (h2 rfl).elim | simp [binOp]
theorem run_binI {op : BinOp} {k : IntKind} {x y : Int} (hb : binI op k x y = some av) (h1 : op ≠ .shl) (h2 : op ≠ .shr) (t : TypeId) : ∃ v, (binOp op t (.int k x) (.int k y)).run P w = .ok v w ∧ RelL w σ F av v := by
  unfold binI at hb
  cases op <;> simp only [Option.some.injEq] at hb <;> first
    | (exact (h1 rfl).elim)
    | (exact (h2 rfl).elim)
    | (cases hb; done)
    | (subst hb; refine ⟨_, ?_, .fz .i⟩; rw [binOp_int _ t k x y h1 h2]; rfl)
    | (subst hb; refine ⟨_, ?_, .fz .b⟩; rw [binOp_int _ t k x y h1 h2]; simp [Op.intCmp, Int.beq_decide, Int.bne_decide]; done)
    | (split at hb
       · cases hb
       · rename_i hy
         obtain rfl := Option.some.inj hb
         refine ⟨_, ?_, .fz .i⟩
         simp [binOp, Op.intDiv, hy])
theorem run_guard_int (op : BinOp) (t : TypeId) (x y : Operand) (k k' : IntKind) (p q : Int) : (eqGuard op t x y (.int k p) (.int k' q)).run P w = .ok () w := by cases op <;> simp [eqGuard]
theorem run_guard_string (op : BinOp) (t : TypeId) (x y : Operand) (p q : ByteArray) : (eqGuard op t x y (.string p) (.string q)).run P w = .ok () w := by cases op <;> simp [eqGuard]
theorem run_guard_bool (op : BinOp) (t : TypeId) (x y : Operand) (p q : Bool) : (eqGuard op t x y (.bool p) (.bool q)).run P w = .ok () w := by cases op <;> simp [eqGuard]
theorem op_bin' (h : Inv C w σ F m) (he : EnvR w σ F e a.tmps) {o : Oper} {op : BinOp} {t t' : TypeId} {x y : Operand} (ho : o.op = .binOp op t x y t') (hact : act nid m ((AOp.bin op (opd x) (opd y)).map (AOpd.get e)) = some (av, ups)) : OpGood P o a C w σ F m nid ups av := by
  simp only [AOp.map, act, Option.bind_eq_some_iff, Option.some.injEq, Prod.mk.injEq] at hact
  obtain ⟨v, hv, rfl, rfl⟩ := hact
  have hx := opd_rel he x
  have hy := opd_rel he y
  unfold binOf at hv
  split at hv
  · rename_i k p k' q hxe hye
    rw [hxe] at hx; rw [hye] at hy
    have hx := hx.iI; have hy := hy.iI
    split at hv
    · split at hv
      · cases hv
      · rename_i hq
        obtain rfl := Option.some.inj hv
        exact quiet h (.fz .i) (by simp [execOp, ho, hx, hy, run_guard_int, binOp, Op.shift, hq])
    · split at hv
      · cases hv
      · rename_i hq
        obtain rfl := Option.some.inj hv
        exact quiet h (.fz .i) (by simp [execOp, ho, hx, hy, run_guard_int, binOp, Op.shift, hq])
    · rename_i n1 n2
      split at hv
      · rename_i hk
        subst hk
        obtain ⟨u, h1, h2⟩ := run_binI (P := P) (w := w) (σ := σ) (F := F) hv (fun e => n1 e) (fun e => n2 e) t
        exact quiet h h2 (by simp [execOp, ho, hx, hy, run_guard_int, h1])
      · cases hv
  · rename_i p q hxe hye
    rw [hxe] at hx; rw [hye] at hy
    have hx := hx.sI; have hy := hy.sI
    split at hv
    · obtain rfl := Option.some.inj hv
      exact quiet h (.fz .b) (by simp [execOp, ho, hx, hy, run_guard_string, binOp, Op.stringOp])
    · obtain rfl := Option.some.inj hv
      exact quiet h (.fz .b) (by simp [execOp, ho, hx, hy, run_guard_string, binOp, Op.stringOp])
    · cases hv
  · cases hv
theorem op_eqb' (h : Inv C w σ F m) (he : EnvR w σ F e a.tmps) {o : Oper} {op : BinOp} {t t' : TypeId} {x y : Operand} (ho : o.op = .binOp op t x y t') (hop : op = .eql ∨ op = .neq) (hu : P.underlying t = some .bool)
    (hact : act nid m ((AOp.eqb (isNeq op) (opd x) (opd y)).map (AOpd.get e)) = some (av, ups)) : OpGood P o a C w σ F m nid ups av := by
  simp only [AOp.map, act] at hact
  have hx := opd_rel he x
  have hy := opd_rel he y
  split at hact
  · rename_i p q hxe hye
    rw [hxe] at hx; rw [hye] at hy
    have hx := hx.bI; have hy := hy.bI
    simp only [Option.some.injEq, Prod.mk.injEq] at hact
    obtain ⟨rfl, rfl⟩ := hact
    rcases hop with rfl | rfl
    · exact quiet h (.fz .b) (by simp [execOp, ho, hx, hy, run_guard_bool, run_eql_bool w t p q hu, isNeq])
    · exact quiet h (.fz .b) (by simp [execOp, ho, hx, hy, run_guard_bool, run_neq_bool w t p q hu, isNeq])
  · cases hact
theorem run_eqCells {t : TypeId} (d : Nat) : ∀ (fs : List Field) (os : List (Nat × Bool)) (xs ys : List AV) (us vs : Array Value) (r : Bool),
    fs.mapM (fun f => if f.name == "_" then none else match P.underlying f.type with
      | some (.int _) => some (f.offset, false)
      | some .bool => some (f.offset, true)
      | _ => none) = some os → CellsL w σ F xs us → CellsL w σ F ys vs → eqCells os xs ys = some r → (Op.eqFields (d + 1) us vs fs).run P w = .ok r w
  | [], os, xs, ys, us, vs, r, hm, hx, hy, he => by
    have : os = [] := by simpa using hm.symm
    subst this
    obtain rfl : true = r := by simpa [eqCells] using he
    simp [Op.eqFields]
  | f :: fs, os, xs, ys, us, vs, r, hm, hx, hy, he => by
    simp only [List.mapM_cons, Option.bind_eq_bind, Option.bind_eq_some_iff, Option.pure_def, Option.some.injEq] at hm
    obtain ⟨n, hn, os', hos, rfl⟩ := hm
    split at hn
    · cases hn
    · rename_i hname
      simp only [eqCells] at he
      split at he
      case h_2 => cases he
      rename_i p q hp hq
      obtain ⟨s, hs, he⟩ := Option.bind_eq_some_iff.1 he
      obtain ⟨u, hu1, hu2, hu3⟩ := hx.2 n.1 p hp
      obtain ⟨v, hv1, hv2, hv3⟩ := hy.2 n.1 q hq
      have hname' : f.name ≠ "_" := by simpa using hname
      have key : ∀ (hag : (isAgg f.type).run P w = .ok false w) (heq : (Op.equalIn (d + 1) f.type u v).run P w = .ok s w) (hoff : f.offset = n.1), (Op.eqFields (d + 1) us vs (f :: fs)).run P w = .ok r w := by
        intro hag heq hoff
        have h1 : (part f.type us f.offset).run P w = .ok u w := by simp [part, hag, hoff, hu1]
        have h2 : (part f.type vs f.offset).run P w = .ok v w := by simp [part, hag, hoff, hv1]
        rw [Op.eqFields]
        simp only [if_pos hname', Sem.run_bind, h1, h2, heq, Result.andThen_ok]
        cases s with
        | false =>
          obtain rfl : false = r := by simpa using he
          simp
        | true =>
          simp only [if_true] at he
          have := run_eqCells (t := t) d fs os' xs ys us vs r hos hx hy he
          simpa using this
      split at hn
      · rename_i kk hkk
        obtain rfl := Option.some.inj hn
        unfold eqCell at hs
        split at hs
        · rename_i k x k' y _
          split at hs
          · rename_i hk
            subst hk
            obtain rfl := Option.some.inj hs
            have hu2 := hu2.iI; have hv2 := hv2.iI
            subst hu2; subst hv2
            exact key (run_isAgg (by simp [agOf, hkk])) (run_equalIn_int w d f.type k kk x y hkk) rfl
          · cases hs
        · rename_i hb; cases hb
        · cases hs
      · rename_i hkk
        obtain rfl := Option.some.inj hn
        unfold eqCell at hs
        split at hs
        · rename_i hb; cases hb
        · rename_i x y _
          obtain rfl := Option.some.inj hs
          have hu2 := hu2.bI; have hv2 := hv2.bI
          subst hu2; subst hv2
          exact key (run_isAgg (by simp [agOf, hkk])) (run_equalIn_bool w d f.type x y hkk) rfl
        · cases hs
      · cases hn
theorem op_eqa' (h : Inv C w σ F m) (he : EnvR w σ F e a.tmps) {o : Oper} {op : BinOp} {t t' : TypeId} {x y : Operand} {os : List (Nat × Bool)} (ho : o.op = .binOp op t x y t') (hop : op = .eql ∨ op = .neq) (hos : eqOffs P t = some os)
    (hbad : ¬ (P.stoodInHeld t || P.eqGuardType P.depth t) = true)
    (hact : act nid m ((AOp.eqa (isNeq op) os (opd x) (opd y)).map (AOpd.get e)) = some (av, ups)) : OpGood P o a C w σ F m nid ups av := by
  simp only [AOp.map, act] at hact
  have hx := opd_rel he x
  have hy := opd_rel he y
  split at hact
  · rename_i p q hxe hye
    rw [hxe] at hx; rw [hye] at hy
    simp only [Option.bind_eq_some_iff, Option.some.injEq, Prod.mk.injEq] at hact
    obtain ⟨r, hr, rfl, rfl⟩ := hact
    have hcx := hx.cellsL rfl
    have hcy := hy.cellsL rfl
    obtain ⟨us, hus, _⟩ := hx.aggI
    obtain ⟨vs, hvs, _⟩ := hy.aggI
    rw [hus] at hcx; rw [hvs] at hcy
    simp only [Bool.or_eq_true, not_or, Bool.not_eq_true] at hbad
    unfold eqOffs at hos
    split at hos
    · rename_i fs hu
      have hf : P.fieldsOf t = fs := by simp [Program.fieldsOf, hu]
      have h1 := run_eqCells (P := P) (w := w) (σ := σ) (F := F) (t := t) 9998 fs.toList os p q us vs r hos hcx hcy hr
      have h2 : (Op.equalIn 10000 t (.agg us) (.agg vs)).run P w = .ok r w := by
        rw [run_equalIn_struct (P := P) w 9999 t us vs (by rw [hf]; exact hu) hbad.1, hf]
        exact h1
      rcases hop with rfl | rfl
      · exact quiet h (.fz .b) (by simp [execOp, ho, hus, hvs, run_eqGuard_agg w _ t _ _ us vs hbad.2, run_eql_struct, h2, isNeq])
      · exact quiet h (.fz .b) (by simp [execOp, ho, hus, hvs, run_eqGuard_agg w _ t _ _ us vs hbad.2, run_neq_struct, h2, isNeq])
    · cases hos
  · cases hact
theorem RelL.sliceI {ne : Bool} {x : AV} {v : Value} (h : RelL w σ F x v) (hx : act nid m (.eqn ne x) = some (av, ups)) : ∃ A l c, v = .slice A l c ∧ ups = [] ∧ (av = .anyb ∨ av = .b ne ∧ A.isNone = false) := by
  simp only [act] at hx
  split at hx
  · rename_i xs
    simp only [Option.some.injEq, Prod.mk.injEq] at hx
    cases h with
    | fz h => cases h with
      | fro vs hes hc hl hA hv =>
        refine ⟨_, _, _, rfl, hx.2.symm, ?_⟩
        rw [← hx.1]
        cases xs with
        | nil => exact .inl rfl
        | cons y ys =>
          obtain ⟨a, rfl, _⟩ := hA (by simp)
          exact .inr ⟨rfl, rfl⟩
  · simp only [Option.some.injEq, Prod.mk.injEq] at hx
    obtain ⟨A, rfl⟩ := h.empI
    exact ⟨_, _, _, rfl, hx.2.symm, .inl hx.1.symm⟩
  · simp only [Option.some.injEq, Prod.mk.injEq] at hx
    cases h with
    | fz h => cases h
    | row h => exact ⟨_, _, _, rfl, hx.2.symm, .inl hx.1.symm⟩
  · simp only [Option.some.injEq, Prod.mk.injEq] at hx
    cases h with
    | fz h => cases h
    | view h => exact ⟨_, _, _, rfl, hx.2.symm, .inl hx.1.symm⟩
  · cases hx
theorem run_eqnil (w : World) (t e : TypeId) (A : Option Addr) (l c : Nat) (h : P.underlying t = some (.slice e)) : (Op.equal t (.slice A l c) (.slice none 0 0)).run P w = .ok A.isNone w := by
  unfold Op.equal
  have h0 : ∀ d, (Op.equalIn (d + 1) t (.slice A l c) (.slice none 0 0)).run P w = .ok A.isNone w := fun d => by
    cases A <;> simp [Op.equalIn, run_underlying h]
  exact h0 9999
theorem run_guard_slice (op : BinOp) (t : TypeId) (x y : Operand) (A B : Option Addr) (l c l' c' : Nat) : (eqGuard op t x y (.slice A l c) (.slice B l' c')).run P w = .ok () w := by cases op <;> simp [eqGuard]
theorem op_eqn' (h : Inv C w σ F m) (he : EnvR w σ F e a.tmps) {o : Oper} {op : BinOp} {t t' et : TypeId} {x : Operand} (ho : o.op = .binOp op t x (.const (.slice none 0 0)) t') (hop : op = .eql ∨ op = .neq) (hu : P.underlying t = some (.slice et))
    (hact : act nid m ((AOp.eqn (isNeq op) (opd x)).map (AOpd.get e)) = some (av, ups)) : OpGood P o a C w σ F m nid ups av := by
  obtain ⟨A, l, c, hv, rfl, hav⟩ := (opd_rel he x).sliceI hact
  have hy : a.eval (.const (.slice none 0 0)) = .slice none 0 0 := rfl
  rcases hop with rfl | rfl
  · rcases hav with rfl | ⟨rfl, hn⟩
    · exact quiet h (v := .bool A.isNone) .anyb (by simp [execOp, ho, hv, hy, run_guard_slice, binOp, run_eqnil w t et A l c hu])
    · exact quiet h (v := .bool false) (.fz .b) (by simp [execOp, ho, hv, hy, run_guard_slice, binOp, run_eqnil w t et A l c hu, hn])
  · rcases hav with rfl | ⟨rfl, hn⟩
    · exact quiet h (v := .bool (!A.isNone)) .anyb (by simp [execOp, ho, hv, hy, run_guard_slice, binOp, run_eqnil w t et A l c hu])
    · exact quiet h (v := .bool true) (.fz .b) (by simp [execOp, ho, hv, hy, run_guard_slice, binOp, run_eqnil w t et A l c hu, hn])
theorem op_bin (h : Inv C w σ F m) (he : EnvR w σ F e a.tmps) {o : Oper} {op : BinOp} {t t' : TypeId} {x y : Operand} (ho : o.op = .binOp op t x y t') (hact : act nid m ((opOf P o).map (AOpd.get e)) = some (av, ups)) : OpGood P o a C w σ F m nid ups av := by
  by_cases hop : op = .eql ∨ op = .neq
  · have hop' := hop
    have ho' := ho
    rcases hop with rfl | rfl <;> simp only [opOf, ho] at hact <;> (
    split at hact
    · rename_i hu; exact op_eqb' h he ho hop' hu hact
    · split at hact
      · rename_i os hos
        split at hact
        · simp [AOp.map, act] at hact
        · rename_i hb; exact op_eqa' h he ho hop' hos hb hact
      · simp [AOp.map, act] at hact
    · exact op_bin' h he ho hact
    · exact op_bin' h he ho hact
    · rename_i hu
      split at hact
      · exact op_eqn' h he ho' hop' hu hact
      · simp [AOp.map, act] at hact
    · simp [AOp.map, act] at hact)
  · refine op_bin' h he ho ?_
    rw [← hact]
    cases op <;> first | (exact (hop (.inl rfl)).elim) | (exact (hop (.inr rfl)).elim) | simp only [opOf, ho]
theorem op_un (h : Inv C w σ F m) (he : EnvR w σ F e a.tmps) {o : Oper} {op : UnOp} {t : TypeId} {x : Operand} (ho : o.op = .unOp op t x) (hact : act nid m ((opOf P o).map (AOpd.get e)) = some (av, ups)) : OpGood P o a C w σ F m nid ups av := by
  simp only [opOf, ho, AOp.map, act] at hact
  have hx := opd_rel he x
  split at hact
  · rename_i k n hxe
    rw [hxe] at hx
    simp only [Option.some.injEq, Prod.mk.injEq] at hact
    obtain ⟨rfl, rfl⟩ := hact
    exact quiet h (.fz .i) (by simp [execOp, ho, hx.iI, Op.unary, Op.intArith])
  · rename_i b hxe
    rw [hxe] at hx
    simp only [Option.some.injEq, Prod.mk.injEq] at hact
    obtain ⟨rfl, rfl⟩ := hact
    exact quiet h (.fz .b) (by simp [execOp, ho, hx.bI, Op.unary])
  · cases hact
theorem op_mf (h : Inv C w σ F m) (he : EnvR w σ F e a.tmps) {o : Oper} {fn : Fn} {fs cs : Array Operand} (ho : o.op = .makeFunc fn fs cs) (hact : act nid m ((opOf P o).map (AOpd.get e)) = some (av, ups)) : OpGood P o a C w σ F m nid ups av := by
  cases fn with
  | func f =>
    simp only [opOf, ho] at hact
    split at hact
    · rename_i hf
      simp only [AOp.map, act, Option.some.injEq, Prod.mk.injEq] at hact
      obtain ⟨rfl, rfl⟩ := hact
      have hfs : fs = #[] := Array.eq_empty_of_size_eq_zero hf
      subst hfs
      refine quiet h (v := .func (.func f) #[] (cs.map a.eval)) (.clo (by simp) (fun k u v hu hv => ?_)) (by simp [execOp, ho, Instr.makeFunc])
      rw [List.map_map, List.getElem?_map] at hu
      rw [Array.getElem?_map] at hv
      cases hk : cs[k]? with
      | none => rw [hk] at hv; cases hv
      | some x =>
        rw [hk] at hv
        rw [show cs.toList[k]? = some x by simpa using hk] at hu
        obtain rfl := Option.some.inj hu
        obtain rfl := Option.some.inj hv
        exact opd_rel he x
    · simp [AOp.map, act] at hact
  | _ => simp [opOf, ho, AOp.map, act] at hact
theorem op_ex (h : Inv C w σ F m) (he : EnvR w σ F e a.tmps) {o : Oper} {x : Operand} {i : Nat} (ho : o.op = .extract x i) (hact : act nid m ((opOf P o).map (AOpd.get e)) = some (av, ups)) : OpGood P o a C w σ F m nid ups av := by
  simp only [opOf, ho, AOp.map, act] at hact
  have hx := opd_rel he x
  split at hact
  · rename_i cs hxe
    rw [hxe] at hx
    simp only [Option.bind_eq_some_iff, Option.some.injEq, Prod.mk.injEq] at hact
    obtain ⟨c, hc, rfl, rfl⟩ := hact
    obtain ⟨us, hus, h1, h2⟩ := hx.tupI
    have hlt : i < us.size := by rw [h1]; exact (List.getElem?_eq_some_iff.1 hc).1
    exact quiet h (h2 i c _ hc (Array.getElem?_eq_getElem hlt)) (by simp [execOp, ho, hus, Instr.extract, Array.getElem?_eq_getElem hlt])
  · cases hact
theorem op_fa (h : Inv C w σ F m) (he : EnvR w σ F e a.tmps) {o : Oper} {t : TypeId} {x : Operand} {k : Nat} (ho : o.op = .fieldAddr t x k) (hact : act nid m ((opOf P o).map (AOpd.get e)) = some (av, ups)) : OpGood P o a C w σ F m nid ups av := by
  simp only [opOf, ho] at hact
  have hx := opd_rel he x
  split at hact
  case h_2 => simp [AOp.map, act] at hact
  rename_i fs hu
  split at hact
  case h_2 => simp [AOp.map, act] at hact
  rename_i f hf
  split at hact
  case h_2 => simp [AOp.map, act] at hact
  rename_i sz hsz
  split at hact
  case isFalse => simp [AOp.map, act] at hact
  rename_i hpos
  obtain ⟨i, hi, rfl⟩ := szOf_ok hsz
  have hrun : ∀ ad : Addr, (Instr.fieldAt t (.pointer (some ad)) k).run P w = .ok (.pointer (some (ad.add f.offset))) w := by
    intro ad
    simp [Instr.fieldAt, run_underlying hu, hf, Instr.sureAddr, fieldPlace, sizeOf, typeInfo, hi, Nat.ne_of_gt hpos]
  simp only [AOp.map, act] at hact
  split at hact
  · rename_i id p q hxe
    rw [hxe] at hx
    simp only [Option.some.injEq, Prod.mk.injEq] at hact
    obtain ⟨rfl, rfl⟩ := hact
    obtain ⟨ℓ, ad, h1, h2, hv⟩ := hx.eltI
    refine quiet h (.elt h1 h2) ?_
    rw [← Nat.add_assoc, ← addr_add_add]
    simp [execOp, ho, hv, hrun]
  · rename_i cs q hxe
    rw [hxe] at hx
    simp only [Option.some.injEq, Prod.mk.injEq] at hact
    obtain ⟨rfl, rfl⟩ := hact
    have hf := hx.fptrI
    cases hxv : a.eval x with
    | pointer pp =>
      rw [hxv] at hf
      cases hf with
      | @fptr _ _ _ p vs hl hF hA hv =>
        refine quiet h (.fz (.fptr vs hl hF hA hv)) ?_
        rw [← addr_add_add]
        simp [execOp, ho, hxv, hrun]
    | _ => rw [hxv] at hf; cases hf
  · cases hact
theorem op_fd (h : Inv C w σ F m) (he : EnvR w σ F e a.tmps) {o : Oper} {t : TypeId} {x : Operand} {k : Nat} (ho : o.op = .field t x k) (hact : act nid m ((opOf P o).map (AOpd.get e)) = some (av, ups)) : OpGood P o a C w σ F m nid ups av := by
  simp only [opOf, ho] at hact
  have hx := opd_rel he x
  split at hact
  case h_2 => simp [AOp.map, act] at hact
  rename_i fs hu
  split at hact
  case h_2 => simp [AOp.map, act] at hact
  rename_i f hf
  split at hact
  case h_2 => simp [AOp.map, act] at hact
  rename_i sz ag hsz hag
  split at hact
  case isFalse => simp [AOp.map, act] at hact
  rename_i h1
  obtain ⟨i, hi, rfl⟩ := szOf_ok hsz
  simp only [AOp.map, act] at hact
  split at hact
  case h_2 => cases hact
  rename_i cs hxe
  rw [hxe] at hx
  split at hact
  case isFalse => cases hact
  rename_i hb
  simp only [Option.bind_eq_some_iff, Option.some.injEq, Prod.mk.injEq] at hact
  obtain ⟨v, hv, rfl, rfl⟩ := hact
  obtain ⟨us, hus, g1, g2, g3⟩ := hx.aggI
  have hr := one_rel (w := w) (σ := σ) (F := F) (us := (us.toList.drop f.offset).take i.size) hv (by rw [List.length_take, List.length_take, List.length_drop, List.length_drop, Array.length_toList, g1]) (fun k u v hu hv => by
    rw [List.getElem?_take] at hu hv
    split at hu
    · rename_i hk; rw [if_pos hk] at hv; rw [List.getElem?_drop] at hu hv
      have hv' : us[f.offset + k]? = some v := by simpa using hv
      exact ⟨g3 _ u v hu hv', g2 v (Array.mem_of_getElem? hv')⟩
    · cases hu)
  refine quiet h hr.1 ?_
  cases ag with
  | true =>
    have hex : us.extract f.offset (f.offset + i.size) = ((us.toList.drop f.offset).take i.size).toArray := by
      apply Array.ext'
      simp [List.extract_eq_take_drop]
    simp [execOp, ho, hus, Instr.field, run_underlying hu, hf, asAgg, part, run_isAgg hag, sizeOf, typeInfo, hi, hex]
  | false =>
    have hs1 : i.size = 1 := h1.resolve_left (by simp)
    have h2 := hr.2 rfl
    have h3 : us[f.offset]? = some (((us.toList.drop f.offset).take i.size).headD .nilFunc) := by
      have : ((us.toList.drop f.offset).take i.size)[0]? = some (((us.toList.drop f.offset).take i.size).headD .nilFunc) := by rw [h2]; rfl
      rw [List.getElem?_take, if_pos (by omega), List.getElem?_drop, Nat.add_zero] at this
      rw [← this]; simp
    simp only [Bool.false_eq_true, if_false]
    simp only [execOp, ho, hus, Instr.field, Sem.run_bind, run_underlying hu, hf, asAgg, part, run_isAgg hag, Result.andThen_ok, Sem.run_pure, h3]
    simp [h3]
theorem op_ix (h : Inv C w σ F m) (he : EnvR w σ F e a.tmps) {o : Oper} {t : TypeId} {x y : Operand} (ho : o.op = .index t x y) (hact : act nid m ((opOf P o).map (AOpd.get e)) = some (av, ups)) : OpGood P o a C w σ F m nid ups av := by
  simp only [opOf, ho] at hact
  split at hact
  case h_2 => simp [AOp.map, act] at hact
  rename_i hu
  simp only [AOp.map, act] at hact
  have hx := opd_rel he x
  have hy := opd_rel he y
  split at hact
  case h_2 => cases hact
  rename_i s k n hxe hye
  rw [hxe] at hx; rw [hye] at hy
  simp only [Option.bind_eq_some_iff, Option.some.injEq, Prod.mk.injEq] at hact
  obtain ⟨u, hu', rfl, rfl⟩ := hact
  unfold getI at hu'
  split at hu'
  case isFalse => cases hu'
  rename_i h0
  refine quiet h (.fz .i) ?_
  have hs : s[n.toNat]? = some u := by
    have hlt := (List.getElem?_eq_some_iff.1 hu').1
    have hlt' : n.toNat < s.size := by simpa using hlt
    rw [getElem?_pos s n.toNat hlt']
    have := (List.getElem?_eq_some_iff.1 hu').2
    rw [← this]; rfl
  simp [execOp, ho, hx.sI, hy.iI, Instr.index, asIntOf, run_underlying hu, h0, hs]
theorem op_len (h : Inv C w σ F m) (he : EnvR w σ F e a.tmps) {o : Oper} {c : Call} {x : Operand} {t : TypeId} {str : Bool} (ho : o.op = .call c) (hc : c.callee = .builtin .len) (hx : c.args = #[x]) (ht : c.argTypes = #[t])
    (hu : if str then P.underlying t = some .string else ∃ e', P.underlying t = some (.slice e')) (hact : act nid m ((AOp.len str (opd x)).map (AOpd.get e)) = some (av, ups)) : OpGood P o a C w σ F m nid ups av := by
  simp only [AOp.map, act] at hact
  have hxr := opd_rel he x
  cases str with
  | true =>
    simp only [if_true] at hact hu
    split at hact
    · rename_i s hxe
      rw [hxe] at hxr
      simp only [Option.some.injEq, Prod.mk.injEq] at hact
      obtain ⟨rfl, rfl⟩ := hact
      exact quiet h (.fz .i) (by simp [execOp, ho, resolve, hc, hx, ht, invoke, builtin, hxr.sI, Builtin.len_, run_underlying hu, goInt])
    · cases hact
  | false =>
    simp only [Bool.false_eq_true, if_false] at hact hu
    simp only [Option.bind_eq_some_iff, Option.some.injEq, Prod.mk.injEq] at hact
    obtain ⟨n, hn, rfl, rfl⟩ := hact
    obtain ⟨A, cc, hv⟩ := h.lenOf_ok hn hxr
    obtain ⟨e', hu'⟩ := hu
    exact quiet h (.fz .i) (by simp [execOp, ho, resolve, hc, hx, ht, invoke, builtin, hv, Builtin.len_, run_underlying hu', goInt])
end
end Go.Eng
