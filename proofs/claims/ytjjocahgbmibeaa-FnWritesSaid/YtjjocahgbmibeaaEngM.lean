/- Operations: the appends themselves, clear, and the one law of operations. -/
import Derived.Test.YtjjocahgbmibeaaEngL
namespace Go.Eng
set_option linter.unusedVariables false
set_option linter.unusedSimpArgs false

section
variable {P : Program} {C : Ctx} {w w' : World} {σ σ' : Sig} {F F' : Nat → Prop} {m : Mem} {nid : Nat} {ups : Ups} {av : AV} {v : Value} {e : Nat → AV} {a : Act}

theorem run_first {es : Nat} {xs : List (List AV)} {A : Option Addr} {vs : List Value} {F : Nat → Prop} (h : Reads' w F es xs A vs) (c : Nat) : (Builtin.firstCells es xs.length (.slice A xs.length c)).run P w = .ok vs.toArray w := by
  have hfl := flat_len h.es
  cases A with
  | none =>
    have hx : xs = [] := by
      cases hxs : xs with
      | nil => rfl
      | cons y ys => obtain ⟨a', ha', _⟩ := h.at_ (by rw [hxs]; simp); cases ha'
    subst hx
    have : vs = [] := List.eq_nil_of_length_eq_zero (by simpa using h.len)
    subst this
    exact run_firstCells_none w es 0 0 c
  | some ad =>
    refine run_firstCells_some w es xs.length ad xs.length c vs (by rw [h.len, hfl]) (fun j v hj => ?_)
    have hlt := (List.getElem?_eq_some_iff.1 hj).1
    obtain ⟨ad', hA, hcell⟩ := h.at_ (fun e => by rw [h.len, e] at hlt; simp at hlt)
    obtain rfl := Option.some.inj hA
    exact hcell j v hj
theorem reads_drew {es : Nat} {xs : List (List AV)} {A : Option Addr} {vs : List Value} (h : Reads' w F es xs A vs) : Reads' w.drew F es xs A vs :=
  ⟨h.es, h.len, h.at_, fun q u v hu hv => (h.rel q u v hu hv).mono (fun k hk => ⟨hk, rfl⟩)⟩
/-- An append, all in all: what is put behind is 'us', made by 'app'. -/
theorem good_append (h : Inv C w σ F m) (hn : σ nid = none) {es bytes : Nat} {x : AV} {fl' : Bool} {ys : List (List AV)} (hact : apOf m nid es bytes x fl' ys = some (av, ups)) {xv : Value} (hx : RelL w σ F x xv)
    (hys : ∀ y, y ∈ ys → y.length = es) {us : List Value} (hul : us.length = ys.flatten.length) (hur : ∀ (q : Nat) u v, ys.flatten[q]? = some u → us[q]? = some v → RelF w (FF fl' F) u v)
    (hu1 : ∀ u, u ∈ us → u.oneCell' = true) {e' : TypeId} {i : TypeInfo} {z : Value} (hi : P.info? e' = some i) (hz : i.zero = some z) (hes : i.size = es) (hby : i.bytes = bytes) (hzs : z.cells.size = es) :
    ∃ A n cap, xv = .slice A n cap ∧ ((n + ys.length ≤ cap ∧ ∃ w', (∀ ad, A = some ad → (storeCells (ad.add (n * es)) us).run P w = .ok () w') ∧ (A = none → w' = w) ∧ Good C w σ F m nid ups av (.slice A (n + ys.length) cap) w') ∨
      (cap < n + ys.length ∧ n + ys.length ≤ 9223372036854775807 ∧ Builtin.nextslicecap (n + ys.length) cap * bytes ≤ 281474976710656 ∧ ∃ olds : List Value, (Builtin.firstCells es n (.slice A n cap)).run P w.drew = .ok olds.toArray w.drew ∧
        Good C w σ F m nid ups av (.slice (some ⟨w.heap.size, 0, none⟩) (n + ys.length) (grownCap w (n + ys.length) cap e')) (w.drew.alloc (.cells (olds.toArray ++ us.toArray ++ Builtin.zeroCells z.cells (grownCap w (n + ys.length) cap e' - (n + ys.length))) e')))) := by
  unfold apOf at hact
  simp only [Option.bind_eq_some_iff] at hact
  obtain ⟨p, hp, hact⟩ := hact
  obtain ⟨fl, mc, xs, d⟩ := p
  simp only at hact
  split at hact
  case isFalse => cases hact
  rename_i hb
  simp only [Option.some.injEq, Prod.mk.injEq] at hact
  obtain ⟨rfl, rfl⟩ := hact
  obtain ⟨A, cap, vs, rfl, hd⟩ := apDst_ok h hp hx
  refine ⟨A, xs.length, cap, rfl, ?_⟩
  by_cases hroom : xs.length + ys.length ≤ cap
  · refine .inl ⟨hroom, ?_⟩
    rcases good_room h hn hd hys hul hur hroom with ⟨h0, hg, hlen⟩ | ⟨g, t, arr, rfl, hh, hsz, hg⟩
    · have hx0 : xs.length = 0 := by omega
      have hy0 : ys = [] := List.eq_nil_of_length_eq_zero (by omega)
      have hus : us = [] := List.eq_nil_of_length_eq_zero (by rw [hul, hy0]; rfl)
      subst hus
      refine ⟨w, fun ad _ => by simp [storeCells], fun _ => rfl, ?_⟩
      have e1 : xs.length + ys.length = 0 := hlen
      rw [h0]
      rw [e1] at hg ⊢
      exact hg
    · refine ⟨_, fun ad hA => ?_, fun hA => absurd hA (by simp), hg⟩
      obtain rfl := Option.some.inj hA
      rw [addr_add_plain]
      have hyl := flat_len hys
      exact run_storeCells_at P g (xs.length * es) t us 0 arr w hh (by rw [hsz, hul, hyl, Nat.add_zero, ← Nat.add_mul]; exact Nat.mul_le_mul_right _ hroom) hu1
  · have hgrow : cap < xs.length + ys.length := by omega
    refine .inr ⟨hgrow, hb.2, growslice_fits hgrow hb.1, vs, run_first (reads_drew hd.reads) cap, ?_⟩
    exact good_grow h hn hd hys hul hur hgrow e' _ (grownCap_ge w _ _ _) (grownCap_le_maxLen w _ _ _ (by simp only [maxLen]; omega)) _ (by rw [size_zeroCells, hzs])
theorem op_ap (h : Inv C w σ F m) (he : EnvR w σ F e a.tmps) (hn : σ nid = none) {o : Oper} {c : Call} {x y : Operand} {t e' : TypeId} {es bytes : Nat} {z : Value} (ho : o.op = .call c) (hc : c.callee = .builtin .append) (hx : c.args = #[x, y]) (ht : c.argTypes = #[t, t])
    (hel : elemOf' P t = some (e', es, bytes, z)) (hact : act nid m ((AOp.ap es bytes (opd x) (opd y)).map (AOpd.get e)) = some (av, ups)) : OpGood P o a C w σ F m nid ups av := by
  obtain ⟨hu, i, hi, hz, rfl, rfl, hes0, hby0, hzs, hz1⟩ := elemOf_ok hel
  simp only [AOp.map, act, Option.bind_eq_some_iff] at hact
  obtain ⟨q, hq, hact⟩ := hact
  have hxr := opd_rel he x
  have hyr := opd_rel he y
  obtain ⟨A2, c2, us, hyv, hc2, hr⟩ := h.sliceOf_ok (fl := q.1) (xs := q.2) hq hyr
  have hu1 : ∀ u, u ∈ us → u.oneCell' = true := fun u hu => by
    obtain ⟨k, hk⟩ := List.getElem?_of_mem hu
    have hlt : k < q.2.flatten.length := by rw [← hr.len]; exact (List.getElem?_eq_some_iff.1 hk).1
    exact (hr.rel k _ u (List.getElem?_eq_getElem hlt) hk).one
  obtain ⟨A, n, cap, hxv, hcase⟩ := good_append (P := P) h hn hact hxr hr.es hr.len hr.rel hu1 hi hz rfl rfl hzs
  have hres : (execOp a.eval o).run P w = ((Builtin.append_ #[t, t] o.type #[.slice A n cap, .slice A2 q.2.length c2]).run P w).andThen fun v w => .ok (.value v) w := by
    simp [execOp, ho, resolve, hc, hx, ht, invoke, builtin, hxv, hyv]
  have hnoint : ∀ k : IntKind, P.underlying t ≠ some (.int k) := fun k hk => by rw [hu] at hk; cases hk
  rcases hcase with ⟨hroom, w', hst, hnone, hg⟩ | ⟨hgrow, h63, hfit, olds, hold, hg⟩
  · refine .inl ⟨_, _, ?_, hg⟩
    rw [hres]
    have hf := run_first (P := P) hr c2
    cases A with
    | none =>
      rw [hnone rfl]
      simp [Builtin.append_, run_underlying hu, sizeOf, typeInfo, hi, Builtin.lenOf, hroom, hf]
    | some ad =>
      have hst := hst ad rfl
      simp [Builtin.append_, run_underlying hu, sizeOf, typeInfo, hi, Builtin.lenOf, hroom, hf, hst]
  · refine .inl ⟨_, _, ?_, hg⟩
    rw [hres]
    have hf := run_first (P := P) (reads_drew hr) c2
    have h63' : ¬ (9223372036854775807 < ((n : Int) + (q.2.length : Int))) := by omega
    have h48' : ¬ (281474976710656 < Builtin.nextslicecap (n + q.2.length) cap * i.bytes) := by omega
    have hnr : ¬ (n + q.2.length ≤ cap) := by omega
    simp [Builtin.append_, run_underlying hu, sizeOf, typeInfo, zeroValue, hi, hz, Builtin.lenOf, hnr, h63', h48', Question.forced, hf, hold, newRow, grownCap]
    congr 2
    apply Array.ext'
    simp [List.append_assoc]
theorem op_apz (h : Inv C w σ F m) (he : EnvR w σ F e a.tmps) (hn : σ nid = none) {o : Oper} {c : Call} {x y : Operand} {t u e' : TypeId} {k : IntKind} {es bytes : Nat} {z : Value} (ho : o.op = .call c) (hc : c.callee = .builtin .append) (hx : c.args = #[x, y]) (ht : c.argTypes = #[t, u])
    (hel : elemOf' P t = some (e', es, bytes, z)) (huu : P.underlying u = some (.int k)) (hact : act nid m ((AOp.apz es bytes (cellsOf z) (opd x) (opd y)).map (AOpd.get e)) = some (av, ups)) : OpGood P o a C w σ F m nid ups av := by
  obtain ⟨hu, i, hi, hz, rfl, rfl, hes0, hby0, hzs, hz1⟩ := elemOf_ok hel
  simp only [AOp.map, act] at hact
  have hxr := opd_rel he x
  have hyr := opd_rel he y
  split at hact
  case h_2 => cases hact
  rename_i kk nn hye
  rw [hye] at hyr
  split at hact
  case isFalse => cases hact
  rename_i hcond
  obtain ⟨h0, hzl, hzlit⟩ := hcond
  have hyv := hyr.iI
  have hys : ∀ y, y ∈ List.replicate nn.toNat (cellsOf z) → y.length = i.size := fun y hy => by rw [flat_rep _ _ y hy, hzl]
  have hyl := flat_len hys
  rw [List.length_replicate] at hyl
  let us : List Value := (Builtin.zeroCells z.cells nn.toNat).toList
  have hzc : Builtin.zeroCells z.cells nn.toNat = (Array.range (nn.toNat * i.size)).map (z.cells[· % z.cells.size]!) := by
    rw [Builtin.zeroCells, hzs]
  have hmade := made_rows (w := w) hzs hz1 hzlit (n := nn.toNat) (nn.toNat * i.size) (Nat.le_refl _) F
  have hul : us.length = (List.replicate nn.toNat (cellsOf z)).flatten.length := by
    rw [hyl]; simp only [us, Array.length_toList, size_zeroCells, hzs]
  have hur : ∀ (q : Nat) u v, (List.replicate nn.toNat (cellsOf z)).flatten[q]? = some u → us[q]? = some v → RelF w (FF true F) u v := by
    intro q u v hq hv
    obtain ⟨v', h1, h2⟩ := made_rows (w := w) hzs hz1 hzlit (n := nn.toNat) (nn.toNat * i.size) (Nat.le_refl _) (FF true F) q u hq
    rw [← hzc] at h1
    have : (Builtin.zeroCells z.cells nn.toNat)[q]? = some v := by simpa [us] using hv
    rw [this] at h1; obtain rfl := Option.some.inj h1; exact h2
  have hu1 : ∀ u, u ∈ us → u.oneCell' = true := fun u hu => by
    obtain ⟨k, hk⟩ := List.getElem?_of_mem hu
    have hlt : k < (List.replicate nn.toNat (cellsOf z)).flatten.length := by rw [← hul]; exact (List.getElem?_eq_some_iff.1 hk).1
    exact (hur k _ u (List.getElem?_eq_getElem hlt) hk).one
  obtain ⟨A, n, cap, hxv, hcase⟩ := good_append (P := P) h hn hact hxr hys hul hur hu1 hi hz rfl rfl hzs
  rw [List.length_replicate] at hcase
  have hap : apOf m nid i.size i.bytes (AOpd.get e (opd x)) true (List.replicate nn.toNat (cellsOf z)) = some (av, ups) := hact
  -- the bounds that the append itself asks for
  have hbnd : nn.toNat * i.bytes ≤ 140737488355328 ∧ nn.toNat ≤ 9223372036854775807 := by
    unfold apOf at hap
    simp only [Option.bind_eq_some_iff] at hap
    obtain ⟨p, _, hap⟩ := hap
    split at hap
    · rename_i hb
      rw [List.length_replicate] at hb
      exact ⟨Nat.le_trans (Nat.mul_le_mul_right _ (Nat.le_add_left _ _)) hb.1, by omega⟩
    · cases hap
  have hw : IntKind.i64.wrap nn = nn := by rw [IntKind.wrap_i64]; omega
  have hnn : ((nn.toNat : Nat) : Int) = nn := Int.toNat_of_nonneg h0
  have n1 : ¬ (nn < 0) := by omega
  have n2 : ¬ (281474976710656 < nn * (i.bytes : Int)) := by
    rw [← hnn]
    have : ((nn.toNat * i.bytes : Nat) : Int) ≤ 140737488355328 := by omega
    rw [Int.natCast_mul] at this
    omega
  have hres : (execOp a.eval o).run P w = ((Builtin.append_ #[t, u] o.type #[.slice A n cap, .int kk nn]).run P w).andThen fun v w => .ok (.value v) w := by
    simp [execOp, ho, resolve, hc, hx, ht, invoke, builtin, hxv, hyv]
  have hzv : ∀ w1 : World, (zeroValue e').run P w1 = .ok z w1 := fun w1 => by simp [zeroValue, typeInfo, hi, hz]
  have hus0 : nn.toNat * i.size = 0 → us = [] := fun h00 => List.eq_nil_of_length_eq_zero (by rw [hul, hyl]; exact h00)
  rcases hcase with ⟨hroom, w', hst, hnone, hg⟩ | ⟨hgrow, h63, hfit, olds, hold, hg⟩
  · refine .inl ⟨_, _, ?_, hg⟩
    rw [hres]
    by_cases h00 : nn.toNat * i.size = 0
    · cases A with
      | none =>
        rw [hnone rfl]
        simp [Builtin.append_, run_underlying hu, run_underlying huu, sizeOf, typeInfo, hi, asInt, asIntOf, hw, n1, n2, hroom, h00]
      | some ad =>
        have hst := hst ad rfl
        rw [hus0 h00] at hst
        simp only [storeCells, Sem.run_pure, Result.ok.injEq, true_and] at hst
        subst hst
        simp [Builtin.append_, run_underlying hu, run_underlying huu, sizeOf, typeInfo, hi, asInt, asIntOf, hw, n1, n2, hroom, h00, storeCells]
    · cases A with
      | none =>
        rw [hnone rfl]
        simp [Builtin.append_, run_underlying hu, run_underlying huu, sizeOf, typeInfo, hi, asInt, asIntOf, hw, n1, n2, hroom, h00, hzv]
      | some ad =>
        have hst : (storeCells (ad.add (n * i.size)) (Builtin.zeroCells z.cells nn.toNat).toList).run P w = .ok () w' := hst ad rfl
        simp [Builtin.append_, run_underlying hu, run_underlying huu, sizeOf, typeInfo, hi, asInt, asIntOf, hw, n1, n2, hroom, h00, hzv, hst]
  · refine .inl ⟨_, _, ?_, hg⟩
    rw [hres]
    have h63' : ¬ (9223372036854775807 < ((n : Int) + (nn.toNat : Int))) := by omega
    have h48' : ¬ (281474976710656 < Builtin.nextslicecap (n + nn.toNat) cap * i.bytes) := by omega
    have hnr : ¬ (n + nn.toNat ≤ cap) := by omega
    have h63'' : ¬ (9223372036854775807 < ((n : Int) + max nn 0)) := by omega
    have fin : ∀ X : Array Value, X = us.toArray → w.drew.alloc (.cells (olds.toArray ++ (X ++ Builtin.zeroCells z.cells (grownCap w (n + nn.toNat) cap e' - (n + nn.toNat)))) e') = w.drew.alloc (.cells (olds.toArray ++ us.toArray ++ Builtin.zeroCells z.cells (grownCap w (n + nn.toNat) cap e' - (n + nn.toNat))) e') := by
      rintro X rfl
      rw [Array.append_assoc]
    by_cases h00 : nn.toNat * i.size = 0
    · rw [← fin #[] (by rw [hus0 h00])]
      simp [Builtin.append_, run_underlying hu, run_underlying huu, sizeOf, typeInfo, hi, hz, asInt, asIntOf, hw, n1, n2, hnr, h63', h63'', h48', h00, hzv, Question.forced, hold, newRow, grownCap, hnn, zeroValue]
    · rw [← fin (Builtin.zeroCells z.cells nn.toNat) (by simp [us])]
      simp [Builtin.append_, run_underlying hu, run_underlying huu, sizeOf, typeInfo, hi, hz, asInt, asIntOf, hw, n1, n2, hnr, h63', h63'', h48', h00, hzv, Question.forced, hold, newRow, grownCap, hnn, zeroValue]
end
end Go.Eng
