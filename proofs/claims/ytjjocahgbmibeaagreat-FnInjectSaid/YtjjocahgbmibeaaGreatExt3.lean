/- slices.Insert of one pair into a row of one's own: what it does, by hand. -/
import Derived.Test.YtjjocahgbmibeaaGreatDat
import Derived.Test.YtjjocahgbmibeaaGreatEngZ
import Derived.Test.YtjjocahgbmibeaaGreatProg
import Derived.Below
import Derived.OwnWalk
import Derived.Tactics
import Derived.Laws.Slices
import Derived.WalkKit
import Derived.KernelRfl
import Derived.RowKit3
import Derived.Laws.Rows
import Derived.ArgAppend
import Derived.Laws.IdiomCopy
import Derived.Laws.Externs
import Derived.Laws.CopyOwn
import Derived.Deep.RegionLaw
import Derived.Test.YtjjocahgbmibeaaGreatRds
namespace Go.Proofs.YtjjocahgbmibeaaGreat.Ext
open Go.RowKit Go.Eng
set_option linter.unusedVariables false
set_option linter.unusedSimpArgs false
structure Aside0 (p : Prop) : Prop where mk :: (out : p)
section
variable {P : Program} {ops : Array Oper} {rest : List Oper} {o : Oper} {a : Act} {Q : Exit → Act → World → Prop} {W : World}
theorem gate_builtin {b : Builtin} {xs : Array Operand} {ts : Array TypeId} (_ho : o.op = .call { callee := .builtin b, args := xs, argTypes := ts }) (h : wpList P ops Q (o :: rest) a W) : wpList P ops Q (o :: rest) a W := h
end
theorem add_at (g o j : Nat) : (⟨g, o, none⟩ : Addr).add j = ⟨g, o + j, none⟩ := by unfold Addr.add; split <;> simp_all
theorem blk_set {w : World} {g : Nat} {t : TypeId} {cs : Array Value} (h : w.heap[g]? = some (.cells cs t (0, 0))) (i : Nat) (u : Value) : (w.setCell ⟨g, i, none⟩ u).heap[g]? = some (.cells (cs.setIfInBounds i u) t (0, 0)) := by
  simp [World.setCell, Array.getElem?_modify, h]
theorem blk_lt {w : World} {g : Nat} {o : Obj} (h : w.heap[g]? = some o) : g < w.heap.size := (Array.getElem?_eq_some_iff.1 h).1
theorem blk_frozen {w : World} {g : Nat} {t : TypeId} {cs : Array Value} (h : w.heap[g]? = some (.cells cs t (0, 0))) (i : Nat) : w.frozen? ⟨g, i, none⟩ = false := by simp [World.frozen?, h]
theorem setCells_far {g : Nat} : ∀ (vs : List Value) (o : Nat) {w : World} (k : Nat), k ≠ g → (w.setCells g o vs).heap[k]? = w.heap[k]?
  | [], _, _, _, _ => rfl
  | v :: r, o, w, k, hk => by
    rw [World.setCells, setCells_far r (o + 1) k hk]
    exact Below.heap_setCell w ⟨g, o, none⟩ v k hk
theorem setCells_same (g : Nat) : ∀ (vs : List Value) (o : Nat) (w : World), (w.setCells g o vs).os = w.os ∧ (w.setCells g o vs).tape = w.tape ∧ (w.setCells g o vs).output = w.output ∧ (w.setCells g o vs).heap.size = w.heap.size
  | [], _, _ => ⟨rfl, rfl, rfl, rfl⟩
  | v :: r, o, w => by
    obtain ⟨h1, h2, h3, h4⟩ := setCells_same g r (o + 1) (w.setCell ⟨g, o, none⟩ v)
    rw [World.setCells]
    exact ⟨h1, h2, h3, by rw [h4]; simp [World.setCell]⟩
theorem setCells_row {g : Nat} {e : TypeId} : ∀ (vs : List Value) (o : Nat) (w : World) (cur : Array Value), w.heap[g]? = some (.cells cur e (0, 0)) → o + vs.length ≤ cur.size →
    ∃ cur', (w.setCells g o vs).heap[g]? = some (.cells cur' e (0, 0)) ∧ cur'.size = cur.size ∧ cur'.toList = cur.toList.take o ++ vs ++ cur.toList.drop (o + vs.length)
  | [], o, w, cur, h, _ => ⟨cur, h, rfl, by simp⟩
  | v :: r, o, w, cur, h, hl => by
    have h2 := blk_set h o v
    simp only [List.length_cons] at hl
    obtain ⟨cur', h3, h4, h5⟩ := setCells_row r (o + 1) (w.setCell ⟨g, o, none⟩ v) _ h2 (by simp; omega)
    refine ⟨cur', h3, by rw [h4]; simp, ?_⟩
    rw [h5, Array.toList_setIfInBounds]
    apply List.ext_getElem?
    intro k
    simp only [List.getElem?_append, List.getElem?_take, List.getElem?_drop, List.length_append, List.length_take, List.length_set, Array.length_toList, List.length_cons, List.getElem?_set]
    rcases Nat.lt_trichotomy k o with hk | hk | hk
    · simp [hk, show k < o + 1 by omega, show o ≠ k by omega, show k < min (o + 1) cur.size by omega, show k < min o cur.size by omega, show k < min (o + 1) cur.size + r.length by omega, show k < min o cur.size + (r.length + 1) by omega]
    · subst hk
      simp [show k < cur.size by omega, show min k cur.size = k by omega, show min (k + 1) cur.size = k + 1 by omega]
      intro q; exact absurd q (by omega)
    · obtain ⟨d, rfl⟩ : ∃ d, k = o + 1 + d := ⟨k - o - 1, by omega⟩
      rw [show min (o + 1) cur.size = o + 1 by omega, show min o cur.size = o by omega]
      by_cases hd : d < r.length
      · simp [show o + 1 + d < o + 1 + r.length by omega, show ¬ o + 1 + d < o by omega, show o + 1 + d < o + (r.length + 1) by omega, show o + 1 + d - o = d + 1 by omega]
        intro q; exact absurd q (by omega)
      · simp [show ¬ o + 1 + d < o + 1 + r.length by omega, show ¬ o + 1 + d < o + (r.length + 1) by omega]
        rw [show o + 1 + r.length + (o + 1 + d - (o + 1 + r.length)) = o + (r.length + 1) + (o + 1 + d - (o + (r.length + 1))) by omega, if_neg (by omega)]
section
variable {P : Program}
/-- append(s[:i], make([]T, n)...) where there is no room. -/
theorem run_append_zeros_anew (w : World) {t ti ty e : TypeId} {i : TypeInfo} {z : Value} (ht : P.underlying t = some (.slice e)) {k : IntKind} (hti : P.underlying ti = some (.int k)) (hi : P.info? e = some i) (hz : i.zero = some z) (hsz : 0 < i.size) (hb0 : 0 < i.bytes) {A : Option Addr} {n m c : Nat} (hm : 0 < m) (hcap : c < n + m) {olds : List Value} (hol : (Builtin.firstCells i.size n (.slice A n c)).run P w.drew = .ok olds.toArray w.drew)
    (kx : IntKind) (hl : (n + m) * i.bytes ≤ 140737488355328) :
    (Builtin.append_ #[t, ti] ty #[.slice A n c, .int kx (m : Int)]).run P w = .ok (.slice (some ⟨w.heap.size, 0, none⟩) (n + m) (grownCap w (n + m) c e))
      (w.drew.alloc (.cells (olds ++ ((Builtin.zeroCells z.cells m).toList ++ (Builtin.zeroCells z.cells (grownCap w (n + m) c e - (n + m))).toList)).toArray e)) := by
  have hle : n + m ≤ 140737488355328 := Nat.le_trans (Nat.le_mul_of_pos_right _ hb0) hl
  have hw : IntKind.i64.wrap (m : Int) = m := by rw [IntKind.wrap_i64]; omega
  have hneg : ¬ ((m : Int) < 0) := by omega
  have hmb : m * i.bytes ≤ 140737488355328 := Nat.le_trans (Nat.mul_le_mul_right _ (Nat.le_add_left m n)) hl
  have hbig : ¬ (281474976710656 < (m : Int) * (i.bytes : Int)) := by
    rw [← Int.natCast_mul]
    omega
  have hn : ¬ (n + m ≤ c) := by omega
  have h63' : ¬ (9223372036854775807 < ((n : Int) + (m : Int))) := by omega
  have hfit := growslice_fits hcap hl
  have h48' : ¬ (281474976710656 < Builtin.nextslicecap (n + m) c * i.bytes) := by omega
  have hmz : ¬ (m * i.size = 0) := Nat.mul_ne_zero (by omega) (by omega)
  simp [Builtin.append_, run_underlying ht, run_underlying hti, sizeOf, typeInfo, zeroValue, hi, hz, asInt, asIntOf, hw, hneg, hbig, hn, h63', h48', Question.forced, hol, newRow, grownCap, hmz]
  congr 2
  apply Array.ext'
  simp
theorem copy_own_run {w : World} {t ty e t2 : TypeId} {i : TypeInfo} (ht : P.underlying t = some (.slice e)) (hi : P.info? e = some i) {g o dLen dCap sLen sCap : Nat} {cur : Array Value} (hh : w.heap[g]? = some (.cells cur t2 (0, 0))) {a : Addr} {cs : List Value} (hn : cs.length = Nat.min sLen dLen * i.size)
    (hsrc : ∀ j v, cs[j]? = some v → w.cell? (a.add j) = some v) (hroom : o + cs.length ≤ cur.size) (h1 : ∀ v ∈ cs, v.oneCell' = true) :
    (Builtin.copy_ #[t, t] ty #[.slice (some ⟨g, o, none⟩) dLen dCap, .slice (some a) sLen sCap]).run P w = .ok (goInt (Nat.min sLen dLen)) (w.setCells g o cs) := by
  have hl := run_loadCells_list (P := P) w a cs hsrc
  have hst := run_storeCells_cells (P := P) g o cs 0 w (fun j hj => by rw [cell_of_row w g _ cur t2 (0, 0) hh]; simp; omega) (fun j _ => blk_frozen hh _) h1
  simp [Builtin.copy_, run_underlying ht, Builtin.lenOf, Builtin.firstCells, sizeOf, typeInfo, hi, ← hn, hl, hst]
/-- slices.overlaps: two blocks; the second one's is a row of one's own. -/
theorem overlaps_own_run {w : World} {tS tR e t2 : TypeId} (ht : P.underlying tS = some (.slice e)) {size : Nat} (hz : ∀ w, (Go.sizeOf e).run P w = .ok size w) {a b : Addr} {la ca lb cb : Nat} (hne : a.block ≠ b.block) {cur : Array Value} (hb : w.heap[b.block]? = some (.cells cur t2 (0, 0))) (hcur : 0 < cur.size) {u : Value} (ha : w.cell? a = some u) :
    (Extern.SlicesOverlaps.overlaps #[tS, tS] #[tR] #[.slice (some a) la ca, .slice (some b) lb cb]).run P w = .ok (.bool false) w := by
  have hnb : (a.block != b.block) = true := by simpa using hne
  have hnb' : (a.block == b.block) = false := by simpa using hne
  have hsb : w.shape? b.block = some (t2, cur.size) := by simp [World.shape?, hb]
  have hfb : ∀ o, w.frozen? ⟨b.block, o, none⟩ = false := fun o => by simp only [World.frozen?, hb]; simp
  have hfb' : w.frozen? b = false := by simp only [World.frozen?, hb]; simp
  obtain ⟨tA, kA, hsa⟩ : ∃ tA kA, w.shape? a.block = some (tA, kA + 1) := by
    unfold World.cell? at ha
    unfold World.shape?
    cases hx : w.heap[a.block]? with
    | none => rw [hx] at ha; cases ha
    | some o =>
      rw [hx] at ha
      cases o with
      | cells cc t fz =>
        have h0 : 0 < cc.size := by
          by_cases hs : a.spot.isSome = true
          · simp [hs] at ha
          · simp only [hs] at ha
            have := (Array.getElem?_eq_some_iff.1 ha).1
            omega
        exact ⟨t, cc.size - 1, by simp; omega⟩
      | _ => cases ha
  change Sem.run P (α := Value) (do
    let some t := (#[tS, tS] : Array TypeId)[0]? | stuck "slices.overlaps: no parameter types"
    let .slice elem ← underlying t | stuck "slices.overlaps: slice type expected"
    let size ← sizeOf elem
    match (some a : Option Addr), (some b : Option Addr) with
    | some a, some b =>
      if la = 0 ∨ lb = 0 ∨ size = 0 then pure (Value.bool false)
      else if a.block != b.block && (← frozen a) && (← frozen b) then unsupported .addressObserved
      else do
        if a.block != b.block then do
          noView a; noView b
          if ← mayBeOne a b then return Value.bool ((← choose (.extern "sameAddr.stringBytes" 2)) == 1)
        pure (Value.bool (a.block == b.block && a.off < b.off + lb * size && b.off < a.off + la * size))
    | _, _ => pure (Value.bool false)) w = _
  by_cases h0 : la = 0 ∨ lb = 0 ∨ size = 0
  · simp [run_underlying ht, hz, h0]
  · obtain ⟨kB, hkB⟩ : ∃ kB, cur.size = kB + 1 := ⟨cur.size - 1, by omega⟩
    rw [hkB] at hsb
    cases hfa : w.frozen? a <;> cases hfe : w.frozen? { block := a.block, off := kA + 1 } <;> simp [run_underlying ht, hz, h0, hnb, hnb', frozen, noView, viewAt, mayBeOne, stringish, shape, Sem.run, hsa, hsb, hfa, hfe, hfb, hfb']
end
section
variable {P : Program} {ops : Array Oper} {rest : List Oper} {o : Oper} {a : Act} {Q : Exit → Act → World → Prop} {Kc : Act → World → Prop}
theorem gone_copy {W w' : World} (hgd : o.guard = none) (d s : Operand) (t t' : TypeId) (ho : o.op = .call { callee := .builtin .copy, args := #[d, s], argTypes := #[t, t'] }) {v u v' : Value} (hd : a.eval d = v) (hs : a.eval s = u)
    (hr : (Builtin.copy_ #[t, t'] o.type #[v, u]).run P W = .ok v' w') (h : wpList P ops Q rest (a.put o.dst v') w') : wpList P ops Q (o :: rest) a W := by
  refine wpList_plain hgd fun K hK => ?_
  unfold Oper.wp execOp
  simp only [ho, resolve, invoke, builtin, Sem.run_bind, Sem.run_pure, Result.andThen_ok, List.map_toArray, List.map_cons, List.map_nil, hd, hs, hr]
  exact hK _ _ h
theorem gone_append {W w' : World} (hgd : o.guard = none) (d s : Operand) (t t' : TypeId) (ho : o.op = .call { callee := .builtin .append, args := #[d, s], argTypes := #[t, t'] }) {v u v' : Value} (hd : a.eval d = v) (hs : a.eval s = u)
    (hr : (Builtin.append_ #[t, t'] o.type #[v, u]).run P W = .ok v' w') (h : wpList P ops Q rest (a.put o.dst v') w') : wpList P ops Q (o :: rest) a W := by
  refine wpList_plain hgd fun K hK => ?_
  unfold Oper.wp execOp
  simp only [ho, resolve, invoke, builtin, Sem.run_bind, Sem.run_pure, Result.andThen_ok, List.map_toArray, List.map_cons, List.map_nil, hd, hs, hr]
  exact hK _ _ h
theorem step_copy {W w' : World} {E : Prop} (hgd : o.guard = none) (d s : Operand) (t t' : TypeId) (ho : o.op = .call { callee := .builtin .copy, args := #[d, s], argTypes := #[t, t'] }) {v u v' : Value} (hd : a.eval d = v) (hs : a.eval s = u)
    (hr : (Builtin.copy_ #[t, t'] o.type #[v, u]).run P W = .ok v' w') (h : Kc (a.put o.dst v') w') : if Region.wanted o (yielded ops a.tmps) = true then Oper.wp P o a W Kc Q else E := by
  have hw : Region.wanted o (yielded ops a.tmps) = true := by simp [Region.wanted, hgd]
  rw [if_pos hw]
  unfold Oper.wp execOp
  simp only [ho, resolve, invoke, builtin, Sem.run_bind, Sem.run_pure, Result.andThen_ok, List.map_toArray, List.map_cons, List.map_nil, hd, hs, hr]
  exact h
end
end Go.Proofs.YtjjocahgbmibeaaGreat.Ext

namespace Go.Proofs.YtjjocahgbmibeaaGreat.Ext
open Go.RowKit Go.Eng
set_option linter.unusedVariables false
set_option linter.unusedSimpArgs false
theorem infoE : (Tryz.prog.info? 41).map (fun i => (i.zero, i.size, i.bytes)) = some (some (.agg #[(.int .i64 0), (.int .i64 0)]), 2, 16) := by kernel_rfl
/-- What the call leaves: a row of one's own, in the old block or a new one. -/
def InsPost (w : World) (g n : Nat) (cells : List Value) (e : Ending) (w' : World) : Prop :=
  ∃ g' c' t' arr', e = .returned (.slice (some ⟨g', 0, none⟩) (n + 1) c') ∧ w'.heap[g']? = some (.cells arr' t' (0, 0)) ∧ arr'.size = c' * 2 ∧ n + 1 ≤ c' ∧ c' ≤ maxLen ∧ arr'.toList.take ((n + 1) * 2) = cells ∧
    (g' = g ∨ w.heap.size ≤ g') ∧ Kept' w w' [g]
theorem cell_in {w : World} {g n c j : Nat} {t : TypeId} {arr : Array Value} {inner : List Value} {u : Value} (hh : w.heap[g]? = some (.cells arr t (0, 0))) (ht : arr.toList.take (n * 2) = inner) (hj : inner[j]? = some u) : w.cell? ⟨g, j, none⟩ = some u := by
  rw [cell_of_row w g _ arr t (0, 0) hh, ← Array.getElem?_toList]
  rw [← ht, List.getElem?_take] at hj
  split at hj
  · exact hj
  · cases hj
section
variable {g n c i c2 : Nat} {t : TypeId} {arr : Array Value} {inner news : List Value} {ad : Addr} {w : World}
set_option maxHeartbeats 8000000 in
set_option maxRecDepth 100000 in
theorem ins_room (hh : w.heap[g]? = some (.cells arr t (0, 0))) (hcs : arr.size = c * 2) (hcm : c ≤ maxLen) (hlt : i < n) (hroom : n + 1 ≤ c) (hbig : n < 1000000)
    (hin : inner.length = n * 2) (ht : arr.toList.take (n * 2) = inner) (h1 : ∀ u ∈ inner, u.oneCell' = true) (hnl : news.length = 2) (hone : ∀ u ∈ news, u.oneCell' = true) (hnews : ∀ j u, news[j]? = some u → w.cell? (ad.add j) = some u)
    (hadg : ad.block ≠ g) (hc2 : 1 ≤ c2) :
    Calls Tryz.prog 118 #[.slice (some ⟨g, 0, none⟩) n c, .int .i64 (i : Int), .slice (some ad) 1 c2] w (InsPost w g n (inner.take (i * 2) ++ news ++ inner.drop (i * 2))) := by
  simp only [maxLen] at hcm
  obtain ⟨i0, hi0, hz0, hsz0, hby0⟩ := info_parts infoE
  obtain ⟨tail, htl⟩ : ∃ tail, tail = inner.drop (i * 2) := ⟨_, rfl⟩
  have hll : tail.length = (n - i) * 2 := by rw [htl, List.length_drop, hin]; omega
  have q5 : ∀ u ∈ tail, u.oneCell' = true := fun u hu => h1 u (by rw [htl] at hu; exact List.mem_of_mem_drop hu)
  have hd : w.drew.heap[g]? = some (.cells arr t (0, 0)) := hh
  obtain ⟨W1, hW1⟩ : ∃ W1, W1 = w.drew.setCells g ((i + 1) * 2) tail := ⟨_, rfl⟩
  obtain ⟨W2, hW2⟩ : ∃ W2, W2 = W1.setCells g (i * 2) news := ⟨_, rfl⟩
  obtain ⟨cur1, h3, h4, h5⟩ := setCells_row tail ((i + 1) * 2) w.drew arr hd (by rw [hll, hcs]; omega)
  rw [← hW1] at h3
  obtain ⟨cur2, h6, h7, h8⟩ := setCells_row news (i * 2) W1 cur1 h3 (by rw [hnl, h4, hcs]; omega)
  rw [← hW2] at h6
  have hfar : ∀ k, k ≠ g → W2.heap[k]? = w.heap[k]? := fun k hk => by rw [hW2, setCells_far _ _ k hk, hW1, setCells_far _ _ k hk]; rfl
  have hu : ∃ u, w.cell? ad = some u := ⟨news[0], by have := hnews 0 news[0] (List.getElem?_eq_getElem (by omega)); rwa [Addr.add_zero'] at this⟩
  obtain ⟨u, hu⟩ := hu
  have hov : ∀ lb cb, (callFunc 158 #[.slice (some ad) 1 c2, .slice (some ⟨g, (i + 1) * 2, none⟩) lb cb]).run Tryz.prog w = .ok (.value (.bool false)) w := fun lb cb => by
    rw [run_callFunc_extern Tryz.func158 (by kernel_rfl) (by kernel_rfl) (by kernel_rfl) (e := Extern.SlicesOverlaps.overlaps #[26, 26] #[4]) (by kernel_rfl),
      overlaps_own_run (P := Tryz.prog) (w := w) (tS := 26) (tR := 4) Tryz.underlying26 (size := 2) (by intro w; simp [sizeOf, typeInfo, hi0, hsz0]) (a := ad) (b := ⟨g, (i + 1) * 2, none⟩) hadg hh (by rw [hcs]; omega) hu]
    rfl
  have HC1 : Aside0 (∀ ty, (Builtin.copy_ #[26, 26] ty #[.slice (some ⟨g, (i + 1) * 2, none⟩) (n - i) (c - (i + 1)), .slice (some ⟨g, i * 2, none⟩) (n + 1 - i) (c - i)]).run Tryz.prog w.drew = .ok (goInt (Nat.min (n + 1 - i) (n - i))) W1) := by
    refine ⟨fun ty => ?_⟩
    rw [hW1]
    refine copy_own_run (w := w.drew) Tryz.underlying26 hi0 (cur := arr) hd ?_ (fun j u hu => ?_) ?_ q5
    · rw [hsz0, hll, show Nat.min (n + 1 - i) (n - i) = n - i from Nat.min_eq_right (by omega)]
    · rw [add_at]
      rw [htl, List.getElem?_drop] at hu
      exact cell_in (n := n) (c := c) hd ht hu
    · rw [hll, hcs]; omega
  have HC2 : Aside0 (∀ ty, (Builtin.copy_ #[26, 26] ty #[.slice (some ⟨g, i * 2, none⟩) (n + 1 - i) (c - i), .slice (some ad) 1 c2]).run Tryz.prog W1 = .ok (goInt (Nat.min 1 (n + 1 - i))) W2) := by
    refine ⟨fun ty => ?_⟩
    rw [hW2]
    refine copy_own_run Tryz.underlying26 hi0 h3 ?_ (fun j u hu => ?_) ?_ hone
    · rw [hsz0, hnl, show Nat.min 1 (n + 1 - i) = 1 from Nat.min_eq_left (by omega)]
    · have h_ := hnews j u hu
      rw [hW1]
      rw [← h_]
      exact World.cell?_of_block (w := w) (by rw [addr_add_block]; exact setCells_far tail ((i + 1) * 2) (w := w.drew) ad.block hadg)
    · rw [hnl, h4, hcs]; omega
  have HF : Aside0 (InsPost w g n (inner.take (i * 2) ++ news ++ inner.drop (i * 2)) (.returned (.slice (some ⟨g, 0, none⟩) (n + 1) c)) W2) := by
    refine ⟨g, c, t, cur2, rfl, h6, by rw [h7, h4, hcs], hroom, by simp only [maxLen]; omega, ?_, .inl rfl, ?_⟩
    · have t1 : cur1.toList.take (i * 2) = inner.take (i * 2) := by
        rw [h5, List.append_assoc, List.take_append_of_le_length (by rw [List.length_take, Array.length_toList, hcs]; omega), List.take_take, Nat.min_eq_left (by omega), ← ht, List.take_take, Nat.min_eq_left (by omega)]
      have t2 : cur1.toList.drop (i * 2 + news.length) = tail ++ arr.toList.drop ((i + 1) * 2 + tail.length) := by
        rw [h5, List.append_assoc, hnl, show i * 2 + 2 = (i + 1) * 2 by omega, List.drop_left' (by rw [List.length_take, Array.length_toList, hcs]; omega)]
      rw [h8, t1, t2, ← List.append_assoc, htl]
      exact List.take_left' (by rw [List.length_append, List.length_append, List.length_take, List.length_drop, hnl, hin]; omega)
    · obtain ⟨a1, a2, a3, a4⟩ := setCells_same g tail ((i + 1) * 2) w.drew
      obtain ⟨b1, b2, b3, b4⟩ := setCells_same g news (i * 2) W1
      rw [← hW1] at a1 a2 a3 a4
      rw [← hW2] at b1 b2 b3 b4
      exact ⟨b1.trans a1, b2.trans a2, b3.trans a3, by rw [b4, a4]; exact Nat.le_refl _, fun k _ hk => hfar k (fun he => hk (by rw [he]; simp))⟩
  have f1 : (i : Int) ≤ (n : Int) := by omega
  have f2 : ¬ ((i : Int) = (n : Int)) := by omega
  have f3 : i ≤ c := by omega
  have f4 : ¬ (c = i) := by omega
  have f5 : i ≤ n := by omega
  have f6 : IntKind.i64.wrap ((n : Int) + 1) = (n : Int) + 1 := by rw [IntKind.wrap_i64]; omega
  have f7 : IntKind.i64.wrap ((i : Int) + 1) = (i : Int) + 1 := by rw [IntKind.wrap_i64]; omega
  have f8 : ((i : Int) + 1).toNat = i + 1 := by omega
  have f9 : ((n : Int) + 1).toNat = n + 1 := by omega
  have f10 : (0 : Int) ≤ (i : Int) + 1 := by omega
  have f11 : (0 : Int) ≤ (n : Int) + 1 := by omega
  have g1 : ¬ ((c : Int) < (n : Int) + 1) := by omega
  have g4 : ¬ (c = i + 1) := by omega
  have g6 : (i : Int) + 1 ≤ (n : Int) + 1 := by omega
  have g7 : (n : Int) + 1 ≤ (c : Int) := by omega
  have g8 : i ≤ n + 1 := by omega
  have g9 : (i : Int) ≤ (n : Int) + 1 := by omega
  clear hh hcs hcm hlt hroom hbig hin ht h1 hnl hone hnews hadg hc2 hi0 hz0 hsz0 hby0 htl hll q5 hd hW1 hW2 h3 h4 h5 h6 h7 h8 hfar hu
  go_enter Tryz.func118, Tryz.ntmps118
  go_wp2_with (first | (simp only [hov]) | ((with_reducible refine gate_builtin (b := .copy) (xs := #[.tmp 80, .tmp 81]) rfl ?_); refine gone_copy rfl (.tmp 80) (.tmp 81) 26 26 rfl rfl rfl (HC2.out _) ?_))
  go_region_law (refine step_copy rfl _ _ 26 26 rfl (by simp [Act.eval, Act.put]) (by simp [Act.eval, Act.put]) (HC1.out _) ?_)
  go_wp2_with ((with_reducible refine gate_builtin (b := .copy) (xs := #[.tmp 80, .tmp 81]) rfl ?_); refine gone_copy rfl (.tmp 80) (.tmp 81) 26 26 rfl rfl rfl (HC2.out _) ?_)
  go_ret
  exact HF.out
end
end Go.Proofs.YtjjocahgbmibeaaGreat.Ext

namespace Go.Proofs.YtjjocahgbmibeaaGreat.Ext
open Go.RowKit Go.Eng
set_option linter.unusedVariables false
set_option linter.unusedSimpArgs false
section
variable {g n c i c2 : Nat} {t : TypeId} {arr : Array Value} {inner news : List Value} {ad : Addr} {w : World}
set_option maxHeartbeats 8000000 in
set_option maxRecDepth 100000 in
theorem ins_anew (hh : w.heap[g]? = some (.cells arr t (0, 0))) (hcs : arr.size = c * 2) (hnc : n ≤ c) (hlt : i < n) (hfull : c < n + 1) (hbig : n < 1000000)
    (hin : inner.length = n * 2) (ht : arr.toList.take (n * 2) = inner) (h1 : ∀ u ∈ inner, u.oneCell' = true) (hnl : news.length = 2) (hone : ∀ u ∈ news, u.oneCell' = true) (hnews : ∀ j u, news[j]? = some u → w.cell? (ad.add j) = some u)
    (hadl : ad.block < w.heap.size) (hc2 : 1 ≤ c2) :
    Calls Tryz.prog 118 #[.slice (some ⟨g, 0, none⟩) n c, .int .i64 (i : Int), .slice (some ad) 1 c2] w (InsPost w g n (inner.take (i * 2) ++ news ++ inner.drop (i * 2))) := by
  obtain ⟨i0, hi0, hz0, hsz0, hby0⟩ := info_parts infoE
  have hgl : g < w.heap.size := blk_lt hh
  obtain ⟨tail, htl⟩ : ∃ tail, tail = inner.drop (i * 2) := ⟨_, rfl⟩
  obtain ⟨olds, hol⟩ : ∃ olds, olds = inner.take (i * 2) := ⟨_, rfl⟩
  have hll : tail.length = (n - i) * 2 := by rw [htl, List.length_drop, hin]; omega
  have hoo : olds.length = i * 2 := by rw [hol, List.length_take, hin]; omega
  have q5 : ∀ u ∈ tail, u.oneCell' = true := fun u hu => h1 u (by rw [htl] at hu; exact List.mem_of_mem_drop hu)
  have g2 : RowKit.wrap64 ((n : Int) + 1 - (i : Int)) = ((n + 1 - i : Nat) : Int) := by unfold RowKit.wrap64; omega
  obtain ⟨c1, hc1⟩ : ∃ c1, c1 = grownCap w (n + 1) c 41 := ⟨_, rfl⟩
  have hge : n + 1 ≤ c1 := by rw [hc1]; exact grownCap_ge w (n + 1) c 41
  have hcm1 : c1 ≤ maxLen := by rw [hc1]; exact grownCap_le_maxLen w (n + 1) c 41 (by simp only [maxLen]; omega)
  obtain ⟨z, hz⟩ : ∃ z, z = (Builtin.zeroCells (.agg #[(.int .i64 0), (.int .i64 0)] : Value).cells (n + 1 - i)).toList ++ (Builtin.zeroCells (.agg #[(.int .i64 0), (.int .i64 0)] : Value).cells (c1 - (n + 1))).toList := ⟨_, rfl⟩
  have hzl : i * 2 + z.length = c1 * 2 := by
    rw [hz, List.length_append, Array.length_toList, Array.length_toList, size_zeroCells, size_zeroCells]
    show i * 2 + ((n + 1 - i) * 2 + (c1 - (n + 1)) * 2) = c1 * 2
    omega
  obtain ⟨W1, hW1⟩ : ∃ W1, W1 = w.drew.alloc (.cells (olds ++ z).toArray 41) := ⟨_, rfl⟩
  obtain ⟨W2, hW2⟩ : ∃ W2, W2 = W1.setCells w.heap.size (i * 2) news := ⟨_, rfl⟩
  obtain ⟨W3, hW3⟩ : ∃ W3, W3 = W2.drew.setCells w.heap.size ((i + 1) * 2) tail := ⟨_, rfl⟩
  have hal : W1.heap[w.heap.size]? = some (.cells (olds ++ z).toArray 41 (0, 0)) := by rw [hW1]; exact heap_alloc_new w.drew _
  have hsz : (olds ++ z).toArray.size = c1 * 2 := by rw [List.size_toArray, List.length_append, hoo, hzl]
  obtain ⟨cur2, h3, h4, h5⟩ := setCells_row news (i * 2) W1 _ hal (by rw [hnl, hsz]; omega)
  rw [← hW2] at h3
  obtain ⟨cur3, h6, h7, h8⟩ := setCells_row tail ((i + 1) * 2) W2.drew cur2 h3 (by rw [hll, h4, hsz]; omega)
  rw [← hW3] at h6
  have hb1 : ∀ k, k < w.heap.size → W1.heap[k]? = w.heap[k]? := fun k hk => by rw [hW1]; exact heap_alloc_old w.drew _ hk
  have hb2 : ∀ k, k < w.heap.size → W2.heap[k]? = w.heap[k]? := fun k hk => by rw [hW2, setCells_far _ _ k (by omega)]; exact hb1 k hk
  have hb3 : ∀ k, k < w.heap.size → W3.heap[k]? = w.heap[k]? := fun k hk => by rw [hW3, setCells_far _ _ k (by omega)]; exact hb2 k hk
  have HA : Aside0 ((Builtin.append_ #[26, 3] 26 #[.slice (some ⟨g, 0, none⟩) i c, .int .i64 (RowKit.wrap64 ((n : Int) + 1 - (i : Int)))]).run Tryz.prog w = .ok (.slice (some ⟨w.heap.size, 0, none⟩) (n + 1) c1) W1) := by
    have e_ : i + (n + 1 - i) = n + 1 := by omega
    have hfc : (Builtin.firstCells i0.size i (.slice (some ⟨g, 0, none⟩) i c)).run Tryz.prog w.drew = .ok olds.toArray w.drew :=
      run_firstCells_some w.drew _ i _ i c olds (by rw [hsz0]; exact hoo) (fun j u hu => by
        rw [addr_add_plain]
        refine cell_in (n := n) (c := c) (w := w.drew) hh ht (u := u) ?_
        rw [hol, List.getElem?_take] at hu
        split at hu
        · exact hu
        · cases hu)
    have h_ := run_append_zeros_anew (P := Tryz.prog) w (ty := 26) Tryz.underlying26 Tryz.underlying3 hi0 hz0 (by rw [hsz0]; decide) (by rw [hby0]; decide) (A := some ⟨g, 0, none⟩) (n := i) (m := n + 1 - i) (c := c) (by omega) (by omega) (olds := olds) hfc .i64 (by rw [hby0, e_]; omega)
    rw [e_, ← hc1, ← hz, ← hW1] at h_
    rw [g2]
    exact ⟨h_⟩
  have HC1 : Aside0 (∀ ty, (Builtin.copy_ #[26, 26] ty #[.slice (some ⟨w.heap.size, i * 2, none⟩) (n + 1 - i) (c1 - i), .slice (some ad) 1 c2]).run Tryz.prog W1 = .ok (goInt (Nat.min 1 (n + 1 - i))) W2) := by
    refine ⟨fun ty => ?_⟩
    rw [hW2]
    refine copy_own_run Tryz.underlying26 hi0 hal ?_ (fun j u hu => ?_) ?_ hone
    · rw [hsz0, hnl, show Nat.min 1 (n + 1 - i) = 1 from Nat.min_eq_left (by omega)]
    · rw [← hnews j u hu]
      exact World.cell?_of_block (w := w) (hb1 _ (by rw [addr_add_block]; exact hadl))
    · rw [hnl, hsz]; omega
  have HC2 : Aside0 (∀ ty, (Builtin.copy_ #[26, 26] ty #[.slice (some ⟨w.heap.size, (i + 1) * 2, none⟩) (n - i) (c1 - (i + 1)), .slice (some ⟨g, i * 2, none⟩) (n - i) (c - i)]).run Tryz.prog W2.drew = .ok (goInt (Nat.min (n - i) (n - i))) W3) := by
    refine ⟨fun ty => ?_⟩
    rw [hW3]
    refine copy_own_run (w := W2.drew) Tryz.underlying26 hi0 (cur := cur2) h3 ?_ (fun j u hu => ?_) ?_ q5
    · rw [hsz0, hll, show Nat.min (n - i) (n - i) = n - i from Nat.min_self _]
    · rw [add_at]
      rw [htl, List.getElem?_drop] at hu
      rw [← cell_in (n := n) (c := c) hh ht hu]
      exact World.cell?_of_block (w := w) (hb2 _ hgl)
    · rw [hll, h4, hsz]; omega
  have HF : Aside0 (InsPost w g n (inner.take (i * 2) ++ news ++ inner.drop (i * 2)) (.returned (.slice (some ⟨w.heap.size, 0, none⟩) (n + 1) c1)) W3) := by
    refine ⟨w.heap.size, c1, 41, cur3, rfl, h6, by rw [h7, h4, hsz], hge, hcm1, ?_, .inr (Nat.le_refl _), ?_⟩
    · have t0 : cur2.toList = olds ++ news ++ z.drop 2 := by
        rw [h5, hnl, List.take_left' hoo]
        congr 1
        rw [List.drop_append, hoo, List.drop_eq_nil_of_le (by omega), List.nil_append, Nat.add_sub_cancel_left]
      have t1 : (olds ++ news ++ z.drop 2).take ((i + 1) * 2) = olds ++ news := List.take_left' (by rw [List.length_append, hoo, hnl]; omega)
      rw [h8, t0, t1, hol, htl]
      exact List.take_left' (by rw [List.length_append, List.length_append, List.length_take, List.length_drop, hnl, hin]; omega)
    · obtain ⟨a1, a2, a3, a4⟩ := setCells_same w.heap.size news (i * 2) W1
      obtain ⟨b1, b2, b3, b4⟩ := setCells_same w.heap.size tail ((i + 1) * 2) W2.drew
      rw [← hW2] at a1 a2 a3 a4
      rw [← hW3] at b1 b2 b3 b4
      have e1 : W1.os = w.os ∧ W1.tape = w.tape ∧ W1.output = w.output ∧ w.heap.size ≤ W1.heap.size := by rw [hW1]; exact ⟨rfl, rfl, rfl, (turns_alloc w.drew _ (fun _ => False)).size⟩
      exact ⟨b1.trans (a1.trans e1.1), b2.trans (a2.trans e1.2.1), b3.trans (a3.trans e1.2.2.1), by rw [b4]; show w.heap.size ≤ W2.heap.size; rw [a4]; exact e1.2.2.2, fun k hk _ => hb3 k hk⟩
  have f1 : (i : Int) ≤ (n : Int) := by omega
  have f2 : ¬ ((i : Int) = (n : Int)) := by omega
  have f3 : i ≤ c := by omega
  have f4 : ¬ (c = i) := by omega
  have f5 : i ≤ n := by omega
  have f6 : IntKind.i64.wrap ((n : Int) + 1) = (n : Int) + 1 := by rw [IntKind.wrap_i64]; omega
  have f7 : IntKind.i64.wrap ((i : Int) + 1) = (i : Int) + 1 := by rw [IntKind.wrap_i64]; omega
  have f8 : ((i : Int) + 1).toNat = i + 1 := by omega
  have f9 : ((n : Int) + 1).toNat = n + 1 := by omega
  have f10 : (0 : Int) ≤ (i : Int) + 1 := by omega
  have f11 : (0 : Int) ≤ (n : Int) + 1 := by omega
  have g1 : (c : Int) < (n : Int) + 1 := by omega
  have g3 : i ≤ c1 := by omega
  have g4 : ¬ (c1 = i) := by omega
  have g5 : ¬ (c1 = i + 1) := by omega
  have g6 : (i : Int) + 1 ≤ (n : Int) + 1 := by omega
  have g7 : (n : Int) + 1 ≤ (c1 : Int) := by omega
  have g8 : i ≤ n + 1 := by omega
  have g9 : (i : Int) ≤ (n : Int) + 1 := by omega
  clear hh hcs hnc hlt hfull hbig hin ht h1 hnl hone hnews hadl hc2 hi0 hz0 hsz0 hby0 htl hol hll hoo q5 g2 hc1 hge hcm1 hz hzl hW1 hW2 hW3 hal hsz h3 h4 h5 h6 h7 h8 hb1 hb2 hb3 hgl
  go_enter Tryz.func118, Tryz.ntmps118
  go_wp2_with (first | ((with_reducible refine gate_builtin (b := .append) (xs := #[.tmp 34, .tmp 39]) rfl ?_); refine gone_append rfl (.tmp 34) (.tmp 39) 26 3 rfl rfl rfl HA.out ?_) | ((with_reducible refine gate_builtin (b := .copy) (xs := #[.tmp 43, .tmp 44]) rfl ?_); refine gone_copy rfl (.tmp 43) (.tmp 44) 26 26 rfl rfl rfl (HC1.out _) ?_))
  go_region_law (refine step_copy rfl _ _ 26 26 rfl (by simp [Act.eval, Act.put]) (by simp [Act.eval, Act.put]) (HC2.out _) ?_)
  go_wp2
  go_ret
  exact HF.out
end
end Go.Proofs.YtjjocahgbmibeaaGreat.Ext

namespace Go.Proofs.YtjjocahgbmibeaaGreat.Ext
open Go.RowKit Go.Eng
set_option linter.unusedVariables false
set_option linter.unusedSimpArgs false
/-- The value that a number stands for. -/
def val : AV → Value
  | .i k n => .int k n
  | _ => .bool false
def flat (xs : List Pr) : List AV := (xs.map Pr.c).flatten
theorem flat_cons (p : Pr) (xs : List Pr) : flat (p :: xs) = .i .i64 p.k :: .i .i64 p.v :: flat xs := rfl
theorem flat_len : ∀ xs : List Pr, (flat xs).length = xs.length * 2
  | [] => rfl
  | p :: xs => by rw [flat_cons, List.length_cons, List.length_cons, flat_len xs, List.length_cons]; omega
theorem flat_app (a b : List Pr) : flat (a ++ b) = flat a ++ flat b := by simp [flat]
theorem flat_take : ∀ (i : Nat) (xs : List Pr), (flat xs).take (i * 2) = flat (xs.take i)
  | 0, xs => by simp [flat]
  | i + 1, [] => by simp [flat]
  | i + 1, p :: xs => by rw [show (i + 1) * 2 = i * 2 + 1 + 1 by omega, flat_cons, List.take_succ_cons, List.take_succ_cons, flat_take i xs, List.take_succ_cons, flat_cons]
theorem flat_drop : ∀ (i : Nat) (xs : List Pr), (flat xs).drop (i * 2) = flat (xs.drop i)
  | 0, xs => by simp [flat]
  | i + 1, [] => by simp [flat]
  | i + 1, p :: xs => by rw [show (i + 1) * 2 = i * 2 + 1 + 1 by omega, flat_cons, List.drop_succ_cons, List.drop_succ_cons, flat_drop i xs, List.drop_succ_cons]
theorem flat_int : ∀ (xs : List Pr) (u : AV), u ∈ flat xs → ∃ k n, u = .i k n
  | [], u, h => by simp [flat] at h
  | p :: xs, u, h => by
    rw [flat_cons] at h
    rcases List.mem_cons.1 h with rfl | h
    · exact ⟨_, _, rfl⟩
    · rcases List.mem_cons.1 h with rfl | h
      · exact ⟨_, _, rfl⟩
      · exact flat_int xs u h
theorem val_of {w : World} {G : Nat → Prop} {u : AV} {v : Value} (hu : ∃ k n, u = .i k n) (h : RelF w G u v) : v = val u := by
  obtain ⟨k, n, rfl⟩ := hu
  cases h; rfl
theorem of_val {w : World} {G : Nat → Prop} {u : AV} (hu : ∃ k n, u = .i k n) : RelF w G u (val u) := by
  obtain ⟨k, n, rfl⟩ := hu
  exact .i
theorem vals_of {w : World} {G : Nat → Prop} {l : List AV} {arr : Array Value} (hall : ∀ u, u ∈ l → ∃ k n, u = .i k n) (hr : ∀ (q : Nat) u, l[q]? = some u → ∃ v, arr[q]? = some v ∧ RelF w G u v) : arr.toList.take l.length = l.map val := by
  apply List.ext_getElem?
  intro q
  rw [List.getElem?_take, List.getElem?_map]
  by_cases hq : q < l.length
  · rw [if_pos hq]
    have e : l[q]? = some l[q] := List.getElem?_eq_getElem hq
    obtain ⟨v, hv, hrel⟩ := hr q _ e
    rw [e, Array.getElem?_toList, hv, val_of (hall _ (List.getElem_mem hq)) hrel]; rfl
  · rw [if_neg hq, List.getElem?_eq_none (by omega)]; rfl
theorem ins_sound {mc : Nat} (xs : List Pr) (p : Pr) (i : Nat) (hlt : i < xs.length) (hbig : xs.length < 1000000) :
    FnSound Tryz.prog [true, false, false] 118 [.own true 2 mc (xs.map Pr.c), .i .i64 (i : Int), .fro true 2 [Pr.c p]] (.own true 2 0 ((xs.take i ++ p :: xs.drop i).map Pr.c)) [.junk] := by
  refine ⟨?_, fun w F vs L hb hnd hL hF => ?_⟩
  · have h := reads118
    simp only [readFn, Option.bind_eq_some_iff] at h
    obtain ⟨c, hc, _⟩ := h
    exact ⟨_, c, Tryz.func118, by kernel_rfl, hc⟩
  · generalize hx : xs.map Pr.c = rows at hb
    have hlen : rows.length = xs.length := by rw [← hx, List.length_map]
    have hfl : rows.flatten = flat xs := by rw [← hx]; rfl
    cases hb with
    | cons h1 hb =>
    cases hb with
    | cons h2 hb =>
    cases hb with
    | cons h3 hb =>
    cases hb with
    | nil =>
    cases h2 with
    | c h2 =>
    cases h2 with
    | fz h2 =>
    cases h2 with
    | i =>
    cases h3 with
    | c h3 =>
    cases h3 with
    | fz h3 =>
    cases h3 with
    | fro vs' hes' hc' hl' hA' hv' =>
    rename_i A2 c2
    obtain ⟨ad, rfl, hFad, hcell⟩ := hA' (by simp)
    have hnews : vs' = (flat [p]).map val := by
      apply List.ext_getElem?
      intro q
      rw [List.getElem?_map]
      by_cases hq : q < (flat [p]).length
      · have e : (flat [p])[q]? = some (flat [p])[q] := List.getElem?_eq_getElem hq
        have hq' : q < vs'.length := by rw [hl']; exact hq
        have e' : vs'[q]? = some vs'[q] := List.getElem?_eq_getElem hq'
        rw [e, e', val_of (flat_int [p] _ (List.getElem_mem hq)) (hv' q _ _ e e')]; rfl
      · rw [List.getElem?_eq_none (by rw [hl']; exact Nat.le_of_not_lt hq), List.getElem?_eq_none (Nat.le_of_not_lt hq)]; rfl
    cases h1 with
    | c h1 =>
    cases h1 with
    | fz h => cases h
    | ownE => simp at hlen; omega
    | own hh hcs hnc hmc hcm h0 hes hrows =>
    rename_i g t c arr
    have hgF : ¬ F g := (hL g (by simp)).1
    have hgl : g < w.heap.size := blk_lt hh
    have ht := vals_of (w := w) (l := rows.flatten) (by rw [hfl]; exact flat_int xs) hrows
    rw [hfl, flat_len] at ht
    have hone : ∀ (ys : List Pr) (u : Value), u ∈ (flat ys).map val → u.oneCell' = true := fun ys u hu => by
      obtain ⟨a, ha, rfl⟩ := List.mem_map.1 hu
      obtain ⟨k, n, rfl⟩ := flat_int ys a ha
      rfl
    have hcells : ((flat xs).map val).take (i * 2) ++ (flat [p]).map val ++ ((flat xs).map val).drop (i * 2) = (flat (xs.take i ++ p :: xs.drop i)).map val := by
      rw [← List.map_take, ← List.map_drop, flat_take, flat_drop, ← List.map_append, ← List.map_append, ← flat_app, ← flat_app, List.append_assoc]; rfl
    have key : Calls Tryz.prog 118 #[.slice (some ⟨g, 0, none⟩) xs.length c, .int .i64 (i : Int), .slice (some ad) 1 c2] w (InsPost w g xs.length ((flat (xs.take i ++ p :: xs.drop i)).map val)) := by
      rw [← hcells]
      have a1 : ((flat xs).map val).length = xs.length * 2 := by rw [List.length_map, flat_len]
      have a2 : ((flat [p]).map val).length = 2 := rfl
      have a3 : ∀ j u, ((flat [p]).map val)[j]? = some u → w.cell? (ad.add j) = some u := fun j u hj => hcell j u (by rw [hnews]; exact hj)
      have a4 : 1 ≤ c2 := hc'
      rw [hlen] at hnc
      rcases Nat.lt_or_ge c (xs.length + 1) with hfull | hroom
      · exact ins_anew hh hcs hnc hlt hfull hbig a1 ht (hone xs) a2 (hone [p]) a3 (hF _ hFad) a4
      · exact ins_room hh hcs hcm hlt hroom hbig a1 ht (hone xs) a2 (hone [p]) a3 (fun e => hgF (e ▸ hFad)) a4
    rw [hlen]
    refine Calls.mono key ?_
    rintro e w' ⟨g', c', t', arr', rfl, hh', hcs', hn', hcm', ht', hg', hk⟩
    refine ⟨_, rfl, F, [g'], [], by simpa using hk, fun _ h => h, fun k hk' => ⟨Nat.lt_of_lt_of_le (hF k hk') hk.size, .inl hk'⟩, ?_, .cons .junk .nil, by simp, fun k hk' => ?_⟩
    · have hlen' : ((xs.take i ++ p :: xs.drop i).map Pr.c).length = xs.length + 1 := by
        simp; omega
      rw [← hlen']
      refine .v (.c (.own hh' hcs' (by rw [hlen']; exact hn') (Nat.zero_le _) hcm' (by omega) (fun x hx => ?_) (fun q u hu => ?_)))
      · obtain ⟨a, _, rfl⟩ := List.mem_map.1 hx; rfl
      · have hu' : (flat (xs.take i ++ p :: xs.drop i))[q]? = some u := hu
        have hm := List.mem_of_getElem? hu'
        refine ⟨val u, ?_, of_val (flat_int _ u hm)⟩
        have e1 : ((flat (xs.take i ++ p :: xs.drop i)).map val)[q]? = some (val u) := by rw [List.getElem?_map, hu']; rfl
        rw [← ht', List.getElem?_take] at e1
        split at e1
        · rwa [Array.getElem?_toList] at e1
        · cases e1
    · have : k = g' := by simpa using hk'
      subst this
      refine ⟨fun hf => ?_, blk_lt hh', ?_⟩
      · rcases hg' with rfl | q
        · exact hgF hf
        · have := hF _ hf; omega
      · rcases hg' with rfl | q
        · exact .inl (by simp)
        · exact .inr q
end Go.Proofs.YtjjocahgbmibeaaGreat.Ext
