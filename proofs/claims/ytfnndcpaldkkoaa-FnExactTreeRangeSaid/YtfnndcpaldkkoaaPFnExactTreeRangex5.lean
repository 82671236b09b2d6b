-- Written by a program of this session, which goes by the kit's print. Not trusted: Lean checks it.
import Derived.Test.YtfnndcpaldkkoaaPFnExactTreeRangex0
import Derived.Test.YtfnndcpaldkkoaaPFnExactTreeRangex4
namespace Go.Proofs.Ytfnndcpaldkkoaa.PFnExactTreeRange
open Go.RowKit Go.Proofs.YtfnndcpaldkkoaaW.PrintWords Go.Proofs.YtfnndcpaldkkoaaW.PrintLast Go.Proofs.YtfnndcpaldkkoaaW.PrintMore
attribute [local go_sem] Instr.field asAgg max2_int min2_int max_two min_two max_three min_three max_four min_four   -- for this text's walks alone
set_option linter.unusedVariables false
set_option linter.unusedSimpArgs false

/-! ### laws_markIntS: function 74 -/
def laws_markIntS.l0 : Nat → List Int → Int → Int → Option (Int × List Int)
 | 0, _, _, _ => none
 | k + 1, x0, x1, x5 => if x5 < (x0.length : Int) then (if 0 ≤ x5 then (laws_markIntS.l0 k (x0.set (x5 : Int).toNat x1) (wrap64 (x1 + 1)) (wrap64 (x5 + 1))) else (none)) else (some (x1, x0))
def laws_markIntS.f (k : Nat) (l0 : List Int) (a1 : Int) : Option (Int × List Int) := laws_markIntS.l0 k l0 a1 0
theorem laws_markIntS.mono_l : ∀ k, (∀ y0 y1 y2, LeO (laws_markIntS.l0 k y0 y1 y2) (laws_markIntS.l0 (k + 1) y0 y1 y2))
 | 0 => fun _ _ _ r h => by simp [laws_markIntS.l0] at h
 | k + 1 => by
  have ih0 := laws_markIntS.mono_l k
  ·intro y0 y1 y2
   unfold laws_markIntS.l0
   exact zm_
theorem laws_markIntS.mono : ∀ a0 a1 k, LeO (laws_markIntS.f k a0 a1) (laws_markIntS.f (k + 1) a0 a1) := by
 intro a0 a1 k
 have ih0 := laws_markIntS.mono_l k
 unfold laws_markIntS.f
 exact zm_
set_option maxHeartbeats 8000000 in
set_option maxRecDepth 100000 in
theorem laws_markIntS.calls (k : Nat) (P0_ : Nat → Prop) (u9000_ : Value) (l0 : List Int) (a1 : Int) (r1 : Int) (r2 : List Int) (w0 w : World) (hB : Below w0.heap.size w0 w) (ho0 : Kd.R (Kd.int .i64) 3 w w0.heap.size P0_ u9000_ l0) (h : laws_markIntS.f k l0 a1 = some (r1, r2)) :
  Calls Try.prog 74 #[u9000_, .int .i64 a1] w fun e w' => e = .returned (.int .i64 r1) ∧ Kd.R (Kd.int .i64) 3 w' w0.heap.size (fun k_ => (P0_ k_ ∨ w.heap.size ≤ k_)) u9000_ r2 ∧ Below w0.heap.size w0 w' ∧ Kept w w' (fun k_ => P0_ k_) := by
 have HO0 := q_ (show Kd.R (Kd.int .i64) 3 w w0.heap.size (fun k_ => (P0_ k_ ∨ w.heap.size ≤ k_)) u9000_ l0 from Kd.R_mono ho0 (fun k_ hk => (.inl hk)))
 have HK := q_ (Kept.refl w (fun k_ => P0_ k_))
 have HW0 := q_ hB.size
 have HB := q_ hB
 clear hB
 have H := h; clear h
 unfold laws_markIntS.f at H
 have H' := q_ H
 clear H
 go_enter Try.func74, Try.ntmps74
 go_wp2
 go_loopg [1, 5] k (fun kq v1 v5 w' => ∃ (x0_1 : List Int) (x1_1 : Int) (x5_1 : Int), v1 = .int .i64 x1_1 ∧ v5 = .int .i64 x5_1 ∧ Aside0 (laws_markIntS.l0 kq x0_1 x1_1 x5_1 = some (r1, r2)) ∧ Aside0 (kq ≤ k) ∧ Aside0 (Kd.R (Kd.int .i64) 3 w' w0.heap.size (fun k_ => (P0_ k_ ∨ w.heap.size ≤ k_)) u9000_ x0_1) ∧ Aside0 (Kept w w' (fun k_ => P0_ k_)) ∧ Aside0 (Below w0.heap.size w0 w'))
 case atStart => exact ⟨(l0), (a1), (0), z4_, z4_, H', ⟨Nat.le_refl _⟩, ⟨z24_⟩, ⟨z5_⟩, ⟨cb_⟩⟩
 case round =>
  clear H'
  try clear p2
  obtain ⟨x0_1, x1_1, x5_1, rfl, rfl, HA, HK1, HO_0, HK, HB⟩ := hrel
  obtain ⟨k1, rfl, H⟩ := rn_ (k := gk) HA (by rintro rfl; simp only [laws_markIntS.l0])
  clear HA
  simp only [laws_markIntS.l0] at H
  replace H := kd_ H; rcases H with ⟨c3b0, H⟩ | ⟨c3b0, H⟩
  ·replace H := kdn_ H; obtain ⟨c4b0, H⟩ := H
   obtain ⟨y193, hy_⟩ : ∃ y_ : List Int, y_ = (x0_1.set (x5_1 : Int).toNat x1_1) := ⟨_, rfl⟩
   replace H : (laws_markIntS.l0 k1 y193 (wrap64 (x1_1 + 1)) (wrap64 (x5_1 + 1))) = some (r1, r2) := z3_
   have Ny193 := q_ hy_
   clear hy_
   have H' := q_ H
   clear H
   obtain ⟨Ao6, co6, eo6⟩ := Kd.R_slice HO_0.out
   subst eo6
   have p5 : 0 ≤ (x5_1 : Int) := of_decide_eq_true z1_
   have q5 : (x5_1 : Int) < ((x0_1.length : Int) : Int) := of_decide_eq_true z1_
   obtain ⟨go5, co5, eo5, gb5, gl5, cl5, HG5⟩ := Kd.R_form HO_0.out (by omega)
   (first | cases eo5 | (injection eo5 with ea_ en_ ec_; (first | subst ea_ | (injection ea_ with ea_; subst ea_)); subst ec_; clear en_))
   have GB5 := q_ gb5
   have GG5 := q_ HG5
   clear gb5 gl5 HG5
   have HMgo5 := q_ (show (P0_ go5 ∨ w.heap.size ≤ go5) from (HO_0.out.1 _ rfl))
   obtain ⟨hx5_0, hf5_0⟩ := Kd.R_celln 0 HO_0.out (x5_1 : Int) p5 q5
   replace p5 := eq_true p5
   replace q5 := eq_true q5
   have HP7 := Kd.R_putg HO_0.out (x5_1 : Int) x1_1
   go_wp2_with (first | ((with_reducible refine gate_store (t := 3) (p := 15) rfl ?_); refine store_event (t := 3) (p := 15) (v := ?vo_w8) (w1 := (wr.setCell ⟨go5, (x5_1 : Int).toNat, none⟩ (.int .i64 x1_1))) ?hg ?ho ?hn ?hr ?_; (case ho => rfl); (case hg => rfl); (case hn => rfl); (case hr => exact z95_); intro w8 hw; have hg : wr.grownBy w8 (some go5) := (by rw [hw]; exact HP7.2); have hp_ : Kd.R (Kd.int .i64) 3 w8 w0.heap.size (fun k_ => (P0_ k_ ∨ w.heap.size ≤ k_)) (.slice (some ⟨go5, 0, none⟩) x0_1.length co6) y193 := (by rw [hw, Ny193.out]; exact HP7.1); clear HP7; replace HB := q_ ((z46_ : Below w0.heap.size w0 w8)); replace HK := q_ (Kept.of_grown (S := (fun k_ => P0_ k_)) hg z5_ (fun k_ e_ => (HO_0.out.1 k_ e_))); replace HO_0 := q_ (hp_); clear hg hw hp_))
   go_roundg k1
   case measure => have := HK1.out; omega
   case rel => exact ⟨(y193), (wrap64 (x1_1 + 1)), (wrap64 (x5_1 + 1)), z4_, z4_, H', ⟨z25_⟩, ⟨z6_⟩, ⟨z5_⟩, ⟨cb_⟩⟩
  ·obtain ⟨rfl, rfl⟩ := s2_ H
   obtain ⟨Ao9, co9, eo9⟩ := Kd.R_slice HO_0.out
   subst eo9
   go_wp2
   go_ret
   exact ⟨z2_, z6_, cb_, z5_⟩

/-! ### laws_markTreeS: function 75 -/
/-! What marks may turn: whole numbers and bools in blocks of S; all else stays, and each row keeps its form. -/
def simV (u v : Value) : Prop := u = v ∨ (∃ k a b, u = .int k a ∧ v = .int k b) ∨ (∃ a b, u = .bool a ∧ v = .bool b)
theorem simV_int (k : IntKind) (a b : Int) : simV (.int k a) (.int k b) := .inr (.inl ⟨k, a, b, rfl, rfl⟩)
theorem simV_bool (a b : Bool) : simV (.bool a) (.bool b) := .inr (.inr ⟨a, b, rfl, rfl⟩)
theorem simV_trans {u v x : Value} (h : simV u v) (h2 : simV v x) : simV u x := by
 rcases h with rfl | ⟨k, a, b, rfl, rfl⟩ | ⟨a, b, rfl, rfl⟩
 ·exact h2
 ·rcases h2 with rfl | ⟨k', a', b', e, rfl⟩ | ⟨a', b', e, rfl⟩
  ·exact simV_int _ _ _
  ·cases e; exact simV_int _ _ _
  ·cases e
 ·rcases h2 with rfl | ⟨k', a', b', e, rfl⟩ | ⟨a', b', e, rfl⟩
  ·exact simV_bool _ _
  ·cases e
  ·exact simV_bool _ _
theorem simV_ofInt {k : IntKind} {a : Int} {u : Value} (h : simV (.int k a) u) : ∃ b, u = .int k b := by
 rcases h with rfl | ⟨k', a', b', e, rfl⟩ | ⟨a', b', e, rfl⟩
 ·exact ⟨a, rfl⟩
 ·cases e; exact ⟨b', rfl⟩
 ·cases e
theorem simV_ofBool {a : Bool} {u : Value} (h : simV (.bool a) u) : ∃ b, u = .bool b := by
 rcases h with rfl | ⟨k', a', b', e, rfl⟩ | ⟨a', b', e, rfl⟩
 ·exact ⟨a, rfl⟩
 ·cases e
 ·exact ⟨b', rfl⟩
theorem simV_ofSlice {A : Option Addr} {n c : Nat} {u : Value} (h : simV (.slice A n c) u) : u = .slice A n c := by
 rcases h with rfl | ⟨k', a', b', e, rfl⟩ | ⟨a', b', e, rfl⟩
 ·rfl
 ·cases e
 ·cases e
def simC (c c' : List Value) : Prop := c'.length = c.length ∧ ∀ (j : Nat) (u : Value), c[j]? = some u → ∃ u', c'[j]? = some u' ∧ simV u u'
theorem simC_refl (c : List Value) : simC c c := ⟨rfl, fun _ u h => ⟨u, h, .inl rfl⟩⟩
theorem simC_trans {c c' c2 : List Value} (h : simC c c') (h2 : simC c' c2) : simC c c2 := ⟨h2.1.trans h.1, fun j u hu => by
 obtain ⟨u', h3, h4⟩ := h.2 j u hu
 obtain ⟨u2, h5, h6⟩ := h2.2 j u' h3
 exact ⟨u2, h5, simV_trans h4 h6⟩⟩
theorem simC_take {c c' : List Value} (h : simC c c') (n : Nat) : simC (c.take n) (c'.take n) := ⟨by rw [List.length_take, List.length_take, h.1], fun j u hu => by
 rw [List.getElem?_take] at hu ⊢
 by_cases hj : j < n
 ·rw [if_pos hj] at hu ⊢; exact h.2 j u hu
 ·rw [if_neg hj] at hu; cases hu⟩
theorem simC_drop {c c' : List Value} (h : simC c c') (n : Nat) : simC (c.drop n) (c'.drop n) := ⟨by rw [List.length_drop, List.length_drop, h.1], fun j u hu => by
 rw [List.getElem?_drop] at hu ⊢
 exact h.2 _ u hu⟩
theorem simC_nil {c' : List Value} (h : simC [] c') : c' = [] := List.eq_nil_of_length_eq_zero h.1
theorem simC_cons {u : Value} {c c' : List Value} (h : simC (u :: c) c') : ∃ u' d, c' = u' :: d ∧ simV u u' ∧ simC c d := by
 cases c' with
 | nil => have := h.1; simp at this
 | cons u' d =>
  obtain ⟨x, hx, hv⟩ := h.2 0 u rfl
  have hx' : u' = x := by simpa using hx
  subst hx'
  exact ⟨u', d, rfl, hv, by have := h.1; simpa using this, fun j y hy => by have := h.2 (j + 1) y (by simpa using hy); simpa using this⟩
def Sim (w w' : World) (S : Nat → Prop) : Prop := w.heap.size ≤ w'.heap.size ∧ ∀ i, i < w.heap.size → w'.heap[i]? = w.heap[i]? ∨ (S i ∧ ∃ (c c' : Array Value) (q : Nat), w.heap[i]? = some (.cells c q (0, 0)) ∧ w'.heap[i]? = some (.cells c' q (0, 0)) ∧ simC c.toList c'.toList)
theorem Sim.refl (w : World) (S : Nat → Prop) : Sim w w S := ⟨Nat.le_refl _, fun _ _ => .inl rfl⟩
theorem Sim.trans {w w1 w2 : World} {S S2 : Nat → Prop} (h : Sim w w1 S) (h2 : Sim w1 w2 S2) (hs : ∀ i, i < w.heap.size → S2 i → S i) : Sim w w2 S := by
 refine ⟨Nat.le_trans h.1 h2.1, fun i hi => ?_⟩
 have hi1 : i < w1.heap.size := Nat.lt_of_lt_of_le hi h.1
 rcases h.2 i hi with e | ⟨s, c, c', q, e1, e2, hc⟩
 ·rcases h2.2 i hi1 with e' | ⟨s', d, d', q', e3, e4, hd⟩
  ·exact .inl (e'.trans e)
  ·exact .inr ⟨hs i hi s', d, d', q', e.symm.trans e3, e4, hd⟩
 ·rcases h2.2 i hi1 with e' | ⟨s', d, d', q', e3, e4, hd⟩
  ·exact .inr ⟨s, c, c', q, e1, e'.trans e2, hc⟩
  ·have he := Option.some.inj (e2.symm.trans e3)
   injection he with ha hb _
   subst ha; subst hb
   exact .inr ⟨s, c, d', q, e1, e4, simC_trans hc hd⟩
theorem Sim.kept {w w1 : World} {S : Nat → Prop} (h : Sim w w1 S) : Kept w w1 S := ⟨h.1, fun i hi hn => (h.2 i hi).resolve_right (fun z => hn z.1)⟩
theorem Sim.mono {w w1 : World} {S S2 : Nat → Prop} (h : Sim w w1 S) (hs : ∀ i, S i → S2 i) : Sim w w1 S2 := ⟨h.1, fun i hi => (h.2 i hi).imp id (fun z => ⟨hs i z.1, z.2⟩)⟩
theorem Sim.below {w w1 : World} {S : Nat → Prop} (h : Below w.heap.size w w1) : Sim w w1 S := ⟨h.size, fun i hi => .inl (h.block i hi)⟩
theorem Sim.set {w w1 w2 : World} {S : Nat → Prop} {g o q : Nat} {u u' : Value} (h : Sim w w1 S) (hw : w2 = w1.setCell ⟨g, o, none⟩ u') (hc : w1.cell? ⟨g, o, none⟩ = some u) (ht : ∃ cells, w1.heap[g]? = some (.cells cells q (0, 0))) (hv : simV u u') (hS : g < w.heap.size → S g) : Sim w w2 S := by
 obtain ⟨cells, ht⟩ := ht
 subst hw
 refine h.trans (S2 := fun i => i = g) ⟨by simp [World.setCell], fun i hi => ?_⟩ (fun i hi e => by subst e; exact hS hi)
 by_cases e : i = g
 ·subst e
  refine .inr ⟨rfl, cells, cells.setIfInBounds o u', q, ht, heap_setCell_same w1 i o cells q u' ht, ?_⟩
  have hcu : cells[o]? = some u := by simpa [World.cell?, ht] using hc
  refine ⟨by simp, fun j x hx => ?_⟩
  rw [Array.getElem?_toList] at hx
  rw [Array.getElem?_toList, Array.getElem?_setIfInBounds]
  by_cases ej : o = j
  ·subst ej
   rw [hcu] at hx
   cases hx
   have hlt : o < cells.size := (Array.getElem?_eq_some_iff.1 hcu).1
   exact ⟨u', by simp [hlt], hv⟩
  ·rw [if_neg ej]
   exact ⟨x, hx, .inl rfl⟩
 ·exact .inl (heap_setCell_other w1 _ i u' e)
theorem list_of {α : Type} (n : Nat) (P : Nat → α → Prop) (h : ∀ j, j < n → ∃ x, P j x) : ∃ xs : List α, xs.length = n ∧ ∀ (j : Nat) (x : α), xs[j]? = some x → P j x := by
 induction n with
 | zero => exact ⟨[], rfl, fun j x hx => by simp at hx⟩
 | succ n ih =>
  obtain ⟨xs, hl, hx⟩ := ih (fun j hj => h j (by omega))
  obtain ⟨x, hp⟩ := h n (by omega)
  refine ⟨xs ++ [x], by simp [hl], fun j y hy => ?_⟩
  rcases Nat.lt_or_ge j xs.length with hj | hj
  ·rw [List.getElem?_append_left hj] at hy
   exact hx j y hy
  ·have hlt := (List.getElem?_eq_some_iff.1 hy).1
   rw [List.length_append, List.length_singleton] at hlt
   have hj2 : j = xs.length := by omega
   subst hj2
   have hxy : x = y := by simpa using hy
   subst hxy
   rw [hl]
   exact hp
theorem R_sim {α : Type} {d : Kd α} {rel : α → α → Prop} {e : Nat} {w w' : World} {S : Nat → Prop} {base : Nat} {ok : Nat → Prop} {v : Value} {xs : List α} (hs : Sim w w' S) (h : d.R e w base ok v xs)
  (hM : ∀ x, x ∈ xs → ∀ ok c c', d.M w base ok x c → simC c c' → ∃ x', rel x x' ∧ d.M w' base ok x' c') : ∃ xs' : List α, xs'.length = xs.length ∧ (∀ (j : Nat) (x : α), xs[j]? = some x → ∃ x', xs'[j]? = some x' ∧ rel x x') ∧ d.R e w' base ok v xs' := by
 obtain ⟨h0, inner, ho, hr⟩ := h
 rcases ho.2 with ⟨rfl, hn⟩ | ⟨g, cap, cur, rfl, hg, hh, hle, hcap, hsz, hin⟩
 ·have hx : xs = [] := List.eq_nil_of_length_eq_zero hn
  subst hx
  exact ⟨[], rfl, fun j x hx => by simp at hx, Kd.R_nil _ _ _ _ _⟩
 ·have hlt : g < w.heap.size := (Array.getElem?_eq_some_iff.1 hh).1
  obtain ⟨cur', hh', hc'⟩ : ∃ cur' : Array Value, w'.heap[g]? = some (.cells cur' e (0, 0)) ∧ simC cur.toList cur'.toList := by
   rcases hs.2 g hlt with e1 | ⟨_, c, c', q, e1, e2, hc⟩
   ·exact ⟨cur, e1.trans hh, simC_refl _⟩
   ·have he := Option.some.inj (hh.symm.trans e1)
    injection he with ha hb _
    subst ha; subst hb
    exact ⟨c', e2, hc⟩
  have hin' : simC inner ((cur'.toList).take (xs.length * d.sz)) := by rw [← hin]; exact simC_take hc' _
  obtain ⟨xs', hl, hx⟩ := list_of xs.length (fun j x' => ∃ x, xs[j]? = some x ∧ rel x x' ∧ d.M w' base (fun k => ok k ∧ some k ≠ (Value.slice (some ⟨g, 0, none⟩) xs.length cap).ownBlock) x' (((cur'.toList.take (xs.length * d.sz)).drop (j * d.sz)).take d.sz)) (fun j hj => by
   have hj' := List.getElem?_eq_getElem hj
   obtain ⟨x', h1, h2⟩ := hM _ (List.getElem_mem hj) _ _ _ (hr.2 j _ hj') (simC_take (simC_drop hin' (j * d.sz)) d.sz)
   exact ⟨x', _, hj', h1, h2⟩)
  refine ⟨xs', hl, fun j x hx' => ?_, h0, (cur'.toList).take (xs.length * d.sz), ⟨?_, .inr ⟨g, cap, cur', ?_, hg, hh', ?_, hcap, ?_, ?_⟩⟩, ?_, fun j p hp => ?_⟩
  ·have hj : j < xs'.length := by rw [hl]; exact (List.getElem?_eq_some_iff.1 hx').1
   obtain ⟨x2, h1, h2, _⟩ := hx j _ (List.getElem?_eq_getElem hj)
   rw [hx'] at h1
   cases h1
   exact ⟨_, List.getElem?_eq_getElem hj, h2⟩
  ·rw [hl]; exact hin'.1.trans ho.1
  ·rw [hl]
  ·rw [hl]; exact hle
  ·have := hc'.1
   simp only [Array.length_toList] at this
   omega
  ·rw [hl]
  ·rw [hl]; exact hin'.1.trans ho.1
  ·obtain ⟨x2, _, _, h2⟩ := hx j p hp
   exact h2
theorem sim92 {w w' : World} {base : Nat} {ok : Nat → Prop} {x : S92} {c c' : List Value} (hm : k92.M w base ok x c) (hc : simC c c') : ∃ x', True ∧ k92.M w' base ok x' c' := by
 obtain rfl := k92_openM hm
 obtain ⟨u0, d, rfl, s0, hc⟩ := simC_cons hc
 obtain ⟨u1, d, rfl, s1, hc⟩ := simC_cons hc
 obtain rfl := simC_nil hc
 obtain ⟨b0, rfl⟩ := simV_ofInt s0
 obtain ⟨b1, rfl⟩ := simV_ofInt s1
 exact ⟨⟨b0, b1⟩, trivial, k92_mkM _ _ _ ⟨b0, b1⟩⟩
theorem sim72 {w w' : World} {base : Nat} {ok : Nat → Prop} {x : S72} {c c' : List Value} (hm : k72.M w base ok x c) (hc : simC c c') : ∃ x', True ∧ k72.M w' base ok x' c' := by
 obtain rfl := k72_openM hm
 obtain ⟨u0, d, rfl, s0, hc⟩ := simC_cons hc
 obtain ⟨u1, d, rfl, s1, hc⟩ := simC_cons hc
 obtain ⟨u2, d, rfl, s2, hc⟩ := simC_cons hc
 obtain rfl := simC_nil hc
 obtain ⟨b0, rfl⟩ := simV_ofInt s0
 obtain ⟨b1, rfl⟩ := simV_ofInt s1
 obtain ⟨b2, rfl⟩ := simV_ofInt s2
 exact ⟨⟨b0, b1, b2⟩, trivial, k72_mkM _ _ _ ⟨b0, b1, b2⟩⟩
theorem simI {w w' : World} {base : Nat} {ok : Nat → Prop} {x : Int} {c c' : List Value} (hm : (Kd.int .i64).M w base ok x c) (hc : simC c c') : ∃ x', True ∧ (Kd.int .i64).M w' base ok x' c' := by
 have h : c = [.int .i64 x] := hm
 subst h
 obtain ⟨u0, d, rfl, s0, hc⟩ := simC_cons hc
 obtain rfl := simC_nil hc
 obtain ⟨b0, rfl⟩ := simV_ofInt s0
 exact ⟨b0, trivial, rfl⟩
mutual
def cntT : S34 → Nat
 | ⟨_, a, b, c, d⟩ => 1 + 2 * a.length + b.length + cntL c + 3 * d.length
def cntL : List S34 → Nat
 | [] => 0
 | x :: xs => cntT x + cntL xs
end
def relT (x x' : S34) : Prop := x'.f1.length = x.f1.length ∧ x'.f2.length = x.f2.length ∧ x'.f3.length = x.f3.length ∧ cntL x'.f3 = cntL x.f3 ∧ x'.f4.length = x.f4.length
theorem cntT_eq (x : S34) : cntT x = 1 + 2 * x.f1.length + x.f2.length + cntL x.f3 + 3 * x.f4.length := by cases x; simp only [cntT]
theorem cntT_rel {x x' : S34} (h : relT x x') : cntT x' = cntT x := by
 obtain ⟨h1, h2, h3, h4, h5⟩ := h
 rw [cntT_eq, cntT_eq, h1, h2, h4, h5]
theorem cntL_rel : ∀ (xs xs' : List S34), xs'.length = xs.length → (∀ (j : Nat) (x : S34), xs[j]? = some x → ∃ x', xs'[j]? = some x' ∧ relT x x') → cntL xs' = cntL xs
 | [], xs', hl, _ => by rw [List.eq_nil_of_length_eq_zero hl]
 | x :: xs, [], hl, _ => by simp at hl
 | x :: xs, x' :: xs', hl, h => by
  obtain ⟨y, hy, hr⟩ := h 0 x rfl
  have hxy : x' = y := by simpa using hy
  subst hxy
  simp only [cntL]
  rw [cntT_rel hr, cntL_rel xs xs' (by simpa using hl) (fun j z hz => by have := h (j + 1) z (by simpa using hz); simpa using this)]
theorem cntL_append : ∀ (xs ys : List S34), cntL (xs ++ ys) = cntL xs + cntL ys
 | [], ys => by simp [cntL]
 | x :: xs, ys => by simp only [List.cons_append, cntL, cntL_append xs ys]; omega
theorem cntL_take {xs : List S34} {i : Nat} {x : S34} (h : xs[i]? = some x) : cntL (xs.take (i + 1)) = cntL (xs.take i) + cntT x := by
 rw [List.take_add_one, h]
 simp only [Option.toList_some, cntL_append, cntL, Nat.add_zero]
theorem cntL_take_le (xs : List S34) (i : Nat) : cntL (xs.take i) ≤ cntL xs := by
 have h := cntL_append (xs.take i) (xs.drop i)
 rw [List.take_append_drop] at h
 omega
theorem sim34 : ∀ (n : Nat) (x : S34), SizeOf.sizeOf x < n → ∀ {w w' : World} {S : Nat → Prop} {base : Nat}, Sim w w' S → ∀ (ok : Nat → Prop) (c c' : List Value), k34.M w base ok x c → simC c c' → ∃ x', relT x x' ∧ k34.M w' base ok x' c'
 | 0, _, hn => absurd hn (by omega)
 | n + 1, x, hn => by
  intro hs ok c c' hm hc
  obtain ⟨v1, v2, v3, v4, rfl, g1, g2, g3, g4⟩ := k34_openM hm
  obtain ⟨u0, d, rfl, s0, hc⟩ := simC_cons hc
  obtain ⟨u1, d, rfl, s1, hc⟩ := simC_cons hc
  obtain ⟨u2, d, rfl, s2, hc⟩ := simC_cons hc
  obtain ⟨u3, d, rfl, s3, hc⟩ := simC_cons hc
  obtain ⟨u4, d, rfl, s4, hc⟩ := simC_cons hc
  obtain rfl := simC_nil hc
  obtain ⟨b, rfl⟩ := simV_ofBool s0
  obtain ⟨A1, c1, rfl⟩ := Kd.R_slice g1
  obtain ⟨A2, c2, rfl⟩ := Kd.R_slice g2
  obtain ⟨A3, c3, rfl⟩ := Kd.R_slice g3
  obtain ⟨A4, c4, rfl⟩ := Kd.R_slice g4
  obtain rfl := simV_ofSlice s1
  obtain rfl := simV_ofSlice s2
  obtain rfl := simV_ofSlice s3
  obtain rfl := simV_ofSlice s4
  obtain ⟨l1, e1, _, r1⟩ := R_sim (rel := fun _ _ => True) hs g1 (fun _ _ _ _ _ hm hc => sim92 hm hc)
  obtain ⟨l2, e2, _, r2⟩ := R_sim (rel := fun _ _ => True) hs g2 (fun _ _ _ _ _ hm hc => simI hm hc)
  obtain ⟨l3, e3, q3, r3⟩ := R_sim (rel := relT) hs g3 (fun y hy ok c c' hm hc => sim34 n y (by
   have h1 := List.sizeOf_lt_of_mem hy
   have h2 : SizeOf.sizeOf x.f3 < SizeOf.sizeOf x := by cases x; simp; omega
   omega) hs ok c c' hm hc)
  obtain ⟨l4, e4, _, r4⟩ := R_sim (rel := fun _ _ => True) hs g4 (fun _ _ _ _ _ hm hc => sim72 hm hc)
  exact ⟨⟨b, l1, l2, l3, l4⟩, ⟨e1, e2, e3, cntL_rel _ _ e3 q3, e4⟩, k34_mkM _ _ _ ⟨b, l1, l2, l3, l4⟩ r1 r2 r3 r4⟩
theorem R_sim34 {w w' : World} {S : Nat → Prop} {base : Nat} {ok : Nat → Prop} {v : Value} {xs : List S34} (hs : Sim w w' S) (h : k34.R 34 w base ok v xs) : ∃ xs' : List S34, xs'.length = xs.length ∧ (∀ (j : Nat) (x : S34), xs[j]? = some x → ∃ x', xs'[j]? = some x' ∧ relT x x') ∧ k34.R 34 w' base ok v xs' :=
 R_sim hs h (fun x _ ok c c' hm hc => sim34 (SizeOf.sizeOf x + 1) x (by omega) hs ok c c' hm hc)
theorem mk_w64 {x : Int} (h0 : 0 ≤ x) (h1 : x < 9223372036854775808) : wrap64 x = x := by unfold wrap64; omega
theorem mark_far {W : World} {g t base : Nat} {l : List Nat} {o : Array Value} (h : base ≤ g ∧ g < W.heap.size ∧ ∃ q, q ∈ l ∧ ∃ cells, W.heap[g]? = some (.cells cells q (0, 0))) (hb : W.heap[g]? = some (.cells o t (0, 0))) (ht : t ∉ l) : False := by
 obtain ⟨_, _, q, hq, cells, hc⟩ := h
 have he := Option.some.inj (hb.symm.trans hc)
 injection he with _ h2 _
 subst h2
 exact ht hq
set_option maxHeartbeats 8000000 in
set_option maxRecDepth 100000 in
theorem laws_markPairS.sim (k : Nat) (P0_ : Nat → Prop) (u9000_ : Value) (l0 : List (S92)) (a1 : Int) (r1 : Int) (r2 : List (S92)) (w0 w : World) (hB : Below w0.heap.size w0 w) (ho0 : Kd.R k92 92 w w0.heap.size P0_ u9000_ l0) (h : laws_markPairS.f k l0 a1 = some (r1, r2)) :
  Calls Try.prog 39 #[u9000_, .int .i64 a1] w fun e w' => e = .returned (.int .i64 r1) ∧ Kd.R k92 92 w' w0.heap.size (fun k_ => (P0_ k_ ∨ w.heap.size ≤ k_)) u9000_ r2 ∧ Below w0.heap.size w0 w' ∧ Sim w w' (fun k_ => P0_ k_) := by
 have HO0 := q_ (show Kd.R k92 92 w w0.heap.size (fun k_ => (P0_ k_ ∨ w.heap.size ≤ k_)) u9000_ l0 from Kd.R_mono ho0 (fun k_ hk => (.inl hk)))
 have HK := q_ (Sim.refl w (fun k_ => P0_ k_))
 have HW0 := q_ hB.size
 have HB := q_ hB
 clear hB
 have H : (laws_markPairS.l0 k l0 a1 0) = some (r1, r2) := h
 clear h
 have H' := q_ H
 clear H
 go_enter Try.func39, Try.ntmps39
 go_wp2
 go_loopg [1, 5] k (fun kq v1 v5 w' => ∃ (x0_1 : List (S92)) (x1_1 : Int) (x5_1 : Int), v1 = .int .i64 x1_1 ∧ v5 = .int .i64 x5_1 ∧ Aside0 (laws_markPairS.l0 kq x0_1 x1_1 x5_1 = some (r1, r2)) ∧ Aside0 (kq ≤ k) ∧ Aside0 (Kd.R k92 92 w' w0.heap.size (fun k_ => (P0_ k_ ∨ w.heap.size ≤ k_)) u9000_ x0_1) ∧ Aside0 (Sim w w' (fun k_ => P0_ k_)) ∧ Aside0 (Below w0.heap.size w0 w'))
 case atStart => exact ⟨(l0), (a1), (0), z4_, z4_, H', ⟨Nat.le_refl _⟩, ⟨z24_⟩, ⟨z37_⟩, ⟨cb_⟩⟩
 case round =>
  clear H'
  try clear p2
  obtain ⟨x0_1, x1_1, x5_1, rfl, rfl, HA, HK1, HO_0, HK, HB⟩ := hrel
  cases gk with
  | zero => exact absurd HA.out (by simp [laws_markPairS.l0])
  | succ k1 =>
   have H := HA.out
   clear HA
   simp only [laws_markPairS.l0] at H
   by_cases c3 : x5_1 < (x0_1.length : Int)
   ·rw [if_pos c3] at H
    have c3b0 : decide (x5_1 < (x0_1.length : Int)) = true := decide_eq_true c3
    clear c3
    by_cases c4 : 0 ≤ x5_1
    ·rw [if_pos c4] at H
     have c4b0 : decide (0 ≤ x5_1) = true := decide_eq_true c4
     clear c4
     obtain ⟨y191, hy_⟩ : ∃ y_ : List (S92), y_ = (x0_1.set (x5_1 : Int).toNat (⟨x1_1, (rd_T92 x0_1 x5_1).f1⟩ : S92)) := ⟨_, rfl⟩
     replace H : (laws_markPairS.l0 k1 (y191.set (x5_1 : Int).toNat (⟨(rd_T92 y191 x5_1).f0, wrap64 (x1_1 + 1)⟩ : S92)) (wrap64 ((wrap64 (x1_1 + 1)) + 1)) (wrap64 (x5_1 + 1))) = some (r1, r2) := z3_
     have Ny191 := q_ hy_
     clear hy_
     obtain ⟨y192, hy_⟩ : ∃ y_ : List (S92), y_ = (y191.set (x5_1 : Int).toNat (⟨(rd_T92 y191 x5_1).f0, wrap64 (x1_1 + 1)⟩ : S92)) := ⟨_, rfl⟩
     replace H : (laws_markPairS.l0 k1 y192 (wrap64 ((wrap64 (x1_1 + 1)) + 1)) (wrap64 (x5_1 + 1))) = some (r1, r2) := z3_
     have Ny192 := q_ hy_
     clear hy_
     have H' := q_ H
     clear H
     obtain ⟨Ao7, co7, eo7⟩ := Kd.R_slice HO_0.out
     subst eo7
     have p5 : 0 ≤ (x5_1 : Int) := of_decide_eq_true z1_
     have q5 : (x5_1 : Int) < ((x0_1.length : Int) : Int) := of_decide_eq_true z1_
     obtain ⟨go5, co5, eo5, gb5, gl5, cl5, HG5⟩ := Kd.R_form HO_0.out (by omega)
     (first | cases eo5 | (injection eo5 with ea_ en_ ec_; (first | subst ea_ | (injection ea_ with ea_; subst ea_)); subst ec_; clear en_))
     have GB5 := q_ gb5
     have GG5 := q_ HG5
     clear gb5 gl5 HG5
     have HMgo5 := q_ (show (P0_ go5 ∨ w.heap.size ≤ go5) from (HO_0.out.1 _ rfl))
     obtain ⟨ce5, hcl5, hM5, hcc5, hfr5⟩ := Kd.R_elem HO_0.out z92 (x5_1 : Int) p5 q5
     obtain rfl := k92_openM hM5
     have hx5_0 : wr.cell? ⟨go5, (x5_1 : Int).toNat * 2, none⟩ = some (.int .i64 ((rd_T92 x0_1 x5_1).f0)) := hcc5 0 _ rfl
     have hx5_1 : wr.cell? ⟨go5, (x5_1 : Int).toNat * 2 + 1, none⟩ = some (.int .i64 ((rd_T92 x0_1 x5_1).f1)) := hcc5 1 _ rfl
     have hf5_0 : wr.frozen? ⟨go5, (x5_1 : Int).toNat * 2, none⟩ = false := hfr5 0
     have hf5_1 : wr.frozen? ⟨go5, (x5_1 : Int).toNat * 2 + 1, none⟩ = false := hfr5 1
     clear hcl5 hcc5 hfr5 hM5
     replace p5 := eq_true p5
     replace q5 := eq_true q5
     have HX8 := q_ (show Kd.R k92 92 wr w0.heap.size (fun k_ => (P0_ k_ ∨ w.heap.size ≤ k_)) (.slice (some ⟨go5, 0, none⟩) x0_1.length co7) x0_1 from z6_)
     obtain ⟨ce8, hcl8, hM8, hcc8, hfr8⟩ := Kd.R_elem HX8.out z92 (x5_1 : Int) (of_decide_eq_true z1_) z90_
     obtain rfl := k92_openM hM8
     have HP8 := Kd.R_seg HX8.out (x5_1 : Int) (of_decide_eq_true z1_) z90_ (seg := [.int .i64 x1_1]) (j := 0) hcl8 hcc8 (show 1 ≤ 2 from by decide) (x' := (⟨x1_1, (rd_T92 x0_1 x5_1).f1⟩ : S92)) (k92_mkM _ _ _ (⟨x1_1, (rd_T92 x0_1 x5_1).f1⟩ : S92) ) (fun _ hk => hk)
     have hx8_0 := hcc8 0 _ rfl
     (try simp only [show (k92).sz = 2 from rfl, Nat.mul_one, Nat.add_zero] at hx8_0)
     have hf8_0 := hfr8 0
     (try simp only [show (k92).sz = 2 from rfl, Nat.mul_one, Nat.add_zero] at hf8_0)
     clear hcl8 hcc8 hfr8 hM8
     go_wp2_with (first | ((with_reducible refine gate_store (t := 3) (p := 16) rfl ?_); refine store_event (t := 3) (p := 16) (v := ?vo_w9) (w1 := (wr.setCell ⟨go5, (x5_1 : Int).toNat * 2, none⟩ (.int .i64 x1_1))) ?hg ?ho ?hn ?hr ?_; (case ho => rfl); (case hg => rfl); (case hn => rfl); (case hr => exact z95_); intro w9 hw; have hg : wr.grownBy w9 (some go5) := (by rw [hw]; exact HP8.2); have hp_ : Kd.R k92 92 w9 w0.heap.size (fun k_ => (P0_ k_ ∨ w.heap.size ≤ k_)) (.slice (some ⟨go5, 0, none⟩) x0_1.length co7) y191 := (by rw [hw, Ny191.out]; exact HP8.1); clear HP8; replace HB := q_ ((z46_ : Below w0.heap.size w0 w9)); replace HK := q_ (Sim.set HK.out hw hx8_0 (Kd.R_typed HO_0.out _ rfl) (simV_int _ _ _) (fun hl_ => (HO_0.out.1 _ rfl).resolve_right (Nat.not_le.2 hl_))); replace HO_0 := q_ (hp_); clear hg hw hp_; have p6 : 0 ≤ (x5_1 : Int) := of_decide_eq_true z1_; have q6 : (x5_1 : Int) < ((x0_1.length : Int) : Int) := of_decide_eq_true z1_; obtain ⟨ce6, hcl6, hM6, hcc6, hfr6⟩ := Kd.R_elem HO_0.out z92 (x5_1 : Int) p6 q6; obtain rfl := k92_openM hM6; have hx6_0 : w9.cell? ⟨go5, (x5_1 : Int).toNat * 2, none⟩ = some (.int .i64 ((rd_T92 y191 x5_1).f0)) := hcc6 0 _ rfl; have hx6_1 : w9.cell? ⟨go5, (x5_1 : Int).toNat * 2 + 1, none⟩ = some (.int .i64 ((rd_T92 y191 x5_1).f1)) := hcc6 1 _ rfl; have hf6_0 : w9.frozen? ⟨go5, (x5_1 : Int).toNat * 2, none⟩ = false := hfr6 0; have hf6_1 : w9.frozen? ⟨go5, (x5_1 : Int).toNat * 2 + 1, none⟩ = false := hfr6 1; clear hcl6 hcc6 hfr6 hM6; replace p6 := eq_true p6; replace q6 := eq_true q6; have HX10 := q_ (show Kd.R k92 92 w9 w0.heap.size (fun k_ => (P0_ k_ ∨ w.heap.size ≤ k_)) (.slice (some ⟨go5, 0, none⟩) x0_1.length co7) y191 from z6_); obtain ⟨ce10, hcl10, hM10, hcc10, hfr10⟩ := Kd.R_elem HX10.out z92 (x5_1 : Int) (of_decide_eq_true z1_) z90_; obtain rfl := k92_openM hM10; have HP10 := Kd.R_seg HX10.out (x5_1 : Int) (of_decide_eq_true z1_) z90_ (seg := [.int .i64 (wrap64 (x1_1 + 1))]) (j := 1) hcl10 hcc10 (show 2 ≤ 2 from by decide) (x' := (⟨(rd_T92 y191 x5_1).f0, wrap64 (x1_1 + 1)⟩ : S92)) (k92_mkM _ _ _ (⟨(rd_T92 y191 x5_1).f0, wrap64 (x1_1 + 1)⟩ : S92) ) (fun _ hk => hk); have hx10_1 := hcc10 1 _ rfl; (try simp only [show (k92).sz = 2 from rfl, Nat.mul_one, Nat.add_zero] at hx10_1); have hf10_1 := hfr10 1; (try simp only [show (k92).sz = 2 from rfl, Nat.mul_one, Nat.add_zero] at hf10_1); clear hcl10 hcc10 hfr10 hM10) | ((with_reducible refine gate_store (t := 3) (p := 23) rfl ?_); refine store_event (t := 3) (p := 23) (v := ?vo_w11) (w1 := (w9.setCell ⟨go5, (x5_1 : Int).toNat * 2 + 1, none⟩ (.int .i64 (wrap64 (x1_1 + 1))))) ?hg ?ho ?hn ?hr ?_; (case ho => rfl); (case hg => rfl); (case hn => rfl); (case hr => exact z95_); intro w11 hw; have hg : w9.grownBy w11 (some go5) := (by rw [hw]; exact HP10.2); have hp_ : Kd.R k92 92 w11 w0.heap.size (fun k_ => (P0_ k_ ∨ w.heap.size ≤ k_)) (.slice (some ⟨go5, 0, none⟩) x0_1.length co7) y192 := (by rw [hw, Ny192.out]; exact HP10.1); clear HP10; replace HB := q_ ((z46_ : Below w0.heap.size w0 w11)); replace HK := q_ (Sim.set HK.out hw hx10_1 (Kd.R_typed HO_0.out _ rfl) (simV_int _ _ _) (fun hl_ => (HO_0.out.1 _ rfl).resolve_right (Nat.not_le.2 hl_))); replace HO_0 := q_ (hp_); clear hg hw hp_))
     go_roundg k1
     case measure => have := HK1.out; omega
     case rel => exact ⟨(y192), (wrap64 ((wrap64 (x1_1 + 1)) + 1)), (wrap64 (x5_1 + 1)), z4_, z4_, H', ⟨z25_⟩, ⟨z6_⟩, ⟨z37_⟩, ⟨cb_⟩⟩
    ·rw [if_neg c4] at H
     exact absurd H (by simp)
   ·rw [if_neg c3] at H
    have c3b0 : decide (x5_1 < (x0_1.length : Int)) = false := decide_eq_false c3
    clear c3
    simp only [Option.some.injEq, Prod.mk.injEq] at H
    obtain ⟨rfl, rfl⟩ := H
    obtain ⟨Ao12, co12, eo12⟩ := Kd.R_slice HO_0.out
    subst eo12
    go_wp2
    go_ret
    exact ⟨z2_, z6_, cb_, z37_⟩

set_option maxHeartbeats 8000000 in
set_option maxRecDepth 100000 in
theorem laws_markIntS.sim (k : Nat) (P0_ : Nat → Prop) (u9000_ : Value) (l0 : List Int) (a1 : Int) (r1 : Int) (r2 : List Int) (w0 w : World) (hB : Below w0.heap.size w0 w) (ho0 : Kd.R (Kd.int .i64) 3 w w0.heap.size P0_ u9000_ l0) (h : laws_markIntS.f k l0 a1 = some (r1, r2)) :
  Calls Try.prog 74 #[u9000_, .int .i64 a1] w fun e w' => e = .returned (.int .i64 r1) ∧ Kd.R (Kd.int .i64) 3 w' w0.heap.size (fun k_ => (P0_ k_ ∨ w.heap.size ≤ k_)) u9000_ r2 ∧ Below w0.heap.size w0 w' ∧ Sim w w' (fun k_ => P0_ k_) := by
 have HO0 := q_ (show Kd.R (Kd.int .i64) 3 w w0.heap.size (fun k_ => (P0_ k_ ∨ w.heap.size ≤ k_)) u9000_ l0 from Kd.R_mono ho0 (fun k_ hk => (.inl hk)))
 have HK := q_ (Sim.refl w (fun k_ => P0_ k_))
 have HW0 := q_ hB.size
 have HB := q_ hB
 clear hB
 have H : (laws_markIntS.l0 k l0 a1 0) = some (r1, r2) := h
 clear h
 have H' := q_ H
 clear H
 go_enter Try.func74, Try.ntmps74
 go_wp2
 go_loopg [1, 5] k (fun kq v1 v5 w' => ∃ (x0_1 : List Int) (x1_1 : Int) (x5_1 : Int), v1 = .int .i64 x1_1 ∧ v5 = .int .i64 x5_1 ∧ Aside0 (laws_markIntS.l0 kq x0_1 x1_1 x5_1 = some (r1, r2)) ∧ Aside0 (kq ≤ k) ∧ Aside0 (Kd.R (Kd.int .i64) 3 w' w0.heap.size (fun k_ => (P0_ k_ ∨ w.heap.size ≤ k_)) u9000_ x0_1) ∧ Aside0 (Sim w w' (fun k_ => P0_ k_)) ∧ Aside0 (Below w0.heap.size w0 w'))
 case atStart => exact ⟨(l0), (a1), (0), z4_, z4_, H', ⟨Nat.le_refl _⟩, ⟨z24_⟩, ⟨z37_⟩, ⟨cb_⟩⟩
 case round =>
  clear H'
  try clear p2
  obtain ⟨x0_1, x1_1, x5_1, rfl, rfl, HA, HK1, HO_0, HK, HB⟩ := hrel
  cases gk with
  | zero => exact absurd HA.out (by simp [laws_markIntS.l0])
  | succ k1 =>
   have H := HA.out
   clear HA
   simp only [laws_markIntS.l0] at H
   by_cases c3 : x5_1 < (x0_1.length : Int)
   ·rw [if_pos c3] at H
    have c3b0 : decide (x5_1 < (x0_1.length : Int)) = true := decide_eq_true c3
    clear c3
    by_cases c4 : 0 ≤ x5_1
    ·rw [if_pos c4] at H
     have c4b0 : decide (0 ≤ x5_1) = true := decide_eq_true c4
     clear c4
     obtain ⟨y193, hy_⟩ : ∃ y_ : List Int, y_ = (x0_1.set (x5_1 : Int).toNat x1_1) := ⟨_, rfl⟩
     replace H : (laws_markIntS.l0 k1 y193 (wrap64 (x1_1 + 1)) (wrap64 (x5_1 + 1))) = some (r1, r2) := z3_
     have Ny193 := q_ hy_
     clear hy_
     have H' := q_ H
     clear H
     obtain ⟨Ao6, co6, eo6⟩ := Kd.R_slice HO_0.out
     subst eo6
     have p5 : 0 ≤ (x5_1 : Int) := of_decide_eq_true z1_
     have q5 : (x5_1 : Int) < ((x0_1.length : Int) : Int) := of_decide_eq_true z1_
     obtain ⟨go5, co5, eo5, gb5, gl5, cl5, HG5⟩ := Kd.R_form HO_0.out (by omega)
     (first | cases eo5 | (injection eo5 with ea_ en_ ec_; (first | subst ea_ | (injection ea_ with ea_; subst ea_)); subst ec_; clear en_))
     have GB5 := q_ gb5
     have GG5 := q_ HG5
     clear gb5 gl5 HG5
     have HMgo5 := q_ (show (P0_ go5 ∨ w.heap.size ≤ go5) from (HO_0.out.1 _ rfl))
     obtain ⟨hx5_0, hf5_0⟩ := Kd.R_celln 0 HO_0.out (x5_1 : Int) p5 q5
     replace p5 := eq_true p5
     replace q5 := eq_true q5
     have HP7 := Kd.R_putg HO_0.out (x5_1 : Int) x1_1
     go_wp2_with (first | ((with_reducible refine gate_store (t := 3) (p := 15) rfl ?_); refine store_event (t := 3) (p := 15) (v := ?vo_w8) (w1 := (wr.setCell ⟨go5, (x5_1 : Int).toNat, none⟩ (.int .i64 x1_1))) ?hg ?ho ?hn ?hr ?_; (case ho => rfl); (case hg => rfl); (case hn => rfl); (case hr => exact z95_); intro w8 hw; have hg : wr.grownBy w8 (some go5) := (by rw [hw]; exact HP7.2); have hp_ : Kd.R (Kd.int .i64) 3 w8 w0.heap.size (fun k_ => (P0_ k_ ∨ w.heap.size ≤ k_)) (.slice (some ⟨go5, 0, none⟩) x0_1.length co6) y193 := (by rw [hw, Ny193.out]; exact HP7.1); clear HP7; replace HB := q_ ((z46_ : Below w0.heap.size w0 w8)); replace HK := q_ (Sim.set HK.out hw hx5_0 (Kd.R_typed HO_0.out _ rfl) (simV_int _ _ _) (fun hl_ => (HO_0.out.1 _ rfl).resolve_right (Nat.not_le.2 hl_))); replace HO_0 := q_ (hp_); clear hg hw hp_))
     go_roundg k1
     case measure => have := HK1.out; omega
     case rel => exact ⟨(y193), (wrap64 (x1_1 + 1)), (wrap64 (x5_1 + 1)), z4_, z4_, H', ⟨z25_⟩, ⟨z6_⟩, ⟨z37_⟩, ⟨cb_⟩⟩
    ·rw [if_neg c4] at H
     exact absurd H (by simp)
   ·rw [if_neg c3] at H
    have c3b0 : decide (x5_1 < (x0_1.length : Int)) = false := decide_eq_false c3
    clear c3
    simp only [Option.some.injEq, Prod.mk.injEq] at H
    obtain ⟨rfl, rfl⟩ := H
    obtain ⟨Ao9, co9, eo9⟩ := Kd.R_slice HO_0.out
    subst eo9
    go_wp2
    go_ret
    exact ⟨z2_, z6_, cb_, z37_⟩

set_option maxHeartbeats 8000000 in
set_option maxRecDepth 100000 in
theorem laws_markMsgS.sim (k : Nat) (P0_ : Nat → Prop) (u9000_ : Value) (l0 : List (S72)) (a1 : Int) (r1 : Int) (r2 : List (S72)) (w0 w : World) (hB : Below w0.heap.size w0 w) (ho0 : Kd.R k72 72 w w0.heap.size P0_ u9000_ l0) (h : laws_markMsgS.f k l0 a1 = some (r1, r2)) :
  Calls Try.prog 30 #[u9000_, .int .i64 a1] w fun e w' => e = .returned (.int .i64 r1) ∧ Kd.R k72 72 w' w0.heap.size (fun k_ => (P0_ k_ ∨ w.heap.size ≤ k_)) u9000_ r2 ∧ Below w0.heap.size w0 w' ∧ Sim w w' (fun k_ => P0_ k_) := by
 have HO0 := q_ (show Kd.R k72 72 w w0.heap.size (fun k_ => (P0_ k_ ∨ w.heap.size ≤ k_)) u9000_ l0 from Kd.R_mono ho0 (fun k_ hk => (.inl hk)))
 have HK := q_ (Sim.refl w (fun k_ => P0_ k_))
 have HW0 := q_ hB.size
 have HB := q_ hB
 clear hB
 have H : (laws_markMsgS.l0 k l0 a1 0) = some (r1, r2) := h
 clear h
 have H' := q_ H
 clear H
 go_enter Try.func30, Try.ntmps30
 go_wp2
 go_loopg [1, 5] k (fun kq v1 v5 w' => ∃ (x0_1 : List (S72)) (x1_1 : Int) (x5_1 : Int), v1 = .int .i64 x1_1 ∧ v5 = .int .i64 x5_1 ∧ Aside0 (laws_markMsgS.l0 kq x0_1 x1_1 x5_1 = some (r1, r2)) ∧ Aside0 (kq ≤ k) ∧ Aside0 (Kd.R k72 72 w' w0.heap.size (fun k_ => (P0_ k_ ∨ w.heap.size ≤ k_)) u9000_ x0_1) ∧ Aside0 (Sim w w' (fun k_ => P0_ k_)) ∧ Aside0 (Below w0.heap.size w0 w'))
 case atStart => exact ⟨(l0), (a1), (0), z4_, z4_, H', ⟨Nat.le_refl _⟩, ⟨z24_⟩, ⟨z37_⟩, ⟨cb_⟩⟩
 case round =>
  clear H'
  try clear p2
  obtain ⟨x0_1, x1_1, x5_1, rfl, rfl, HA, HK1, HO_0, HK, HB⟩ := hrel
  cases gk with
  | zero => exact absurd HA.out (by simp [laws_markMsgS.l0])
  | succ k1 =>
   have H := HA.out
   clear HA
   simp only [laws_markMsgS.l0] at H
   by_cases c3 : x5_1 < (x0_1.length : Int)
   ·rw [if_pos c3] at H
    have c3b0 : decide (x5_1 < (x0_1.length : Int)) = true := decide_eq_true c3
    clear c3
    by_cases c4 : 0 ≤ x5_1
    ·rw [if_pos c4] at H
     have c4b0 : decide (0 ≤ x5_1) = true := decide_eq_true c4
     clear c4
     obtain ⟨y188, hy_⟩ : ∃ y_ : List (S72), y_ = (x0_1.set (x5_1 : Int).toNat (⟨x1_1, (rd_T72 x0_1 x5_1).f1, (rd_T72 x0_1 x5_1).f2⟩ : S72)) := ⟨_, rfl⟩
     replace H : ((some (y188.set (x5_1 : Int).toNat (⟨(rd_T72 y188 x5_1).f0, wrap64 (x1_1 + 1), (rd_T72 y188 x5_1).f2⟩ : S72) : List (S72))).bind fun y189 => (laws_markMsgS.l0 k1 (y189.set (x5_1 : Int).toNat (⟨(rd_T72 y189 x5_1).f0, (rd_T72 y189 x5_1).f1, wrap64 ((wrap64 (x1_1 + 1)) + 1)⟩ : S72)) (wrap64 ((wrap64 ((wrap64 (x1_1 + 1)) + 1)) + 1)) (wrap64 (x5_1 + 1)))) = some (r1, r2) := z3_
     have Ny188 := q_ hy_
     clear hy_
     obtain ⟨y189, hy_⟩ : ∃ y_ : List (S72), y_ = (y188.set (x5_1 : Int).toNat (⟨(rd_T72 y188 x5_1).f0, wrap64 (x1_1 + 1), (rd_T72 y188 x5_1).f2⟩ : S72)) := ⟨_, rfl⟩
     replace H : (laws_markMsgS.l0 k1 (y189.set (x5_1 : Int).toNat (⟨(rd_T72 y189 x5_1).f0, (rd_T72 y189 x5_1).f1, wrap64 ((wrap64 (x1_1 + 1)) + 1)⟩ : S72)) (wrap64 ((wrap64 ((wrap64 (x1_1 + 1)) + 1)) + 1)) (wrap64 (x5_1 + 1))) = some (r1, r2) := z3_
     have Ny189 := q_ hy_
     clear hy_
     obtain ⟨y190, hy_⟩ : ∃ y_ : List (S72), y_ = (y189.set (x5_1 : Int).toNat (⟨(rd_T72 y189 x5_1).f0, (rd_T72 y189 x5_1).f1, wrap64 ((wrap64 (x1_1 + 1)) + 1)⟩ : S72)) := ⟨_, rfl⟩
     replace H : (laws_markMsgS.l0 k1 y190 (wrap64 ((wrap64 ((wrap64 (x1_1 + 1)) + 1)) + 1)) (wrap64 (x5_1 + 1))) = some (r1, r2) := z3_
     have Ny190 := q_ hy_
     clear hy_
     have H' := q_ H
     clear H
     obtain ⟨Ao8, co8, eo8⟩ := Kd.R_slice HO_0.out
     subst eo8
     have p5 : 0 ≤ (x5_1 : Int) := of_decide_eq_true z1_
     have q5 : (x5_1 : Int) < ((x0_1.length : Int) : Int) := of_decide_eq_true z1_
     obtain ⟨go5, co5, eo5, gb5, gl5, cl5, HG5⟩ := Kd.R_form HO_0.out (by omega)
     (first | cases eo5 | (injection eo5 with ea_ en_ ec_; (first | subst ea_ | (injection ea_ with ea_; subst ea_)); subst ec_; clear en_))
     have GB5 := q_ gb5
     have GG5 := q_ HG5
     clear gb5 gl5 HG5
     have HMgo5 := q_ (show (P0_ go5 ∨ w.heap.size ≤ go5) from (HO_0.out.1 _ rfl))
     obtain ⟨ce5, hcl5, hM5, hcc5, hfr5⟩ := Kd.R_elem HO_0.out z72 (x5_1 : Int) p5 q5
     obtain rfl := k72_openM hM5
     have hx5_0 : wr.cell? ⟨go5, (x5_1 : Int).toNat * 3, none⟩ = some (.int .i64 ((rd_T72 x0_1 x5_1).f0)) := hcc5 0 _ rfl
     have hx5_1 : wr.cell? ⟨go5, (x5_1 : Int).toNat * 3 + 1, none⟩ = some (.int .i64 ((rd_T72 x0_1 x5_1).f1)) := hcc5 1 _ rfl
     have hx5_2 : wr.cell? ⟨go5, (x5_1 : Int).toNat * 3 + 2, none⟩ = some (.int .i64 ((rd_T72 x0_1 x5_1).f2)) := hcc5 2 _ rfl
     have hf5_0 : wr.frozen? ⟨go5, (x5_1 : Int).toNat * 3, none⟩ = false := hfr5 0
     have hf5_1 : wr.frozen? ⟨go5, (x5_1 : Int).toNat * 3 + 1, none⟩ = false := hfr5 1
     have hf5_2 : wr.frozen? ⟨go5, (x5_1 : Int).toNat * 3 + 2, none⟩ = false := hfr5 2
     clear hcl5 hcc5 hfr5 hM5
     replace p5 := eq_true p5
     replace q5 := eq_true q5
     have HX9 := q_ (show Kd.R k72 72 wr w0.heap.size (fun k_ => (P0_ k_ ∨ w.heap.size ≤ k_)) (.slice (some ⟨go5, 0, none⟩) x0_1.length co8) x0_1 from z6_)
     obtain ⟨ce9, hcl9, hM9, hcc9, hfr9⟩ := Kd.R_elem HX9.out z72 (x5_1 : Int) (of_decide_eq_true z1_) z90_
     obtain rfl := k72_openM hM9
     have HP9 := Kd.R_seg HX9.out (x5_1 : Int) (of_decide_eq_true z1_) z90_ (seg := [.int .i64 x1_1]) (j := 0) hcl9 hcc9 (show 1 ≤ 3 from by decide) (x' := (⟨x1_1, (rd_T72 x0_1 x5_1).f1, (rd_T72 x0_1 x5_1).f2⟩ : S72)) (k72_mkM _ _ _ (⟨x1_1, (rd_T72 x0_1 x5_1).f1, (rd_T72 x0_1 x5_1).f2⟩ : S72) ) (fun _ hk => hk)
     have hx9_0 := hcc9 0 _ rfl
     (try simp only [show (k72).sz = 3 from rfl, Nat.mul_one, Nat.add_zero] at hx9_0)
     have hf9_0 := hfr9 0
     (try simp only [show (k72).sz = 3 from rfl, Nat.mul_one, Nat.add_zero] at hf9_0)
     clear hcl9 hcc9 hfr9 hM9
     go_wp2_with (first | ((with_reducible refine gate_store (t := 3) (p := 16) rfl ?_); refine store_event (t := 3) (p := 16) (v := ?vo_w10) (w1 := (wr.setCell ⟨go5, (x5_1 : Int).toNat * 3, none⟩ (.int .i64 x1_1))) ?hg ?ho ?hn ?hr ?_; (case ho => rfl); (case hg => rfl); (case hn => rfl); (case hr => exact z95_); intro w10 hw; have hg : wr.grownBy w10 (some go5) := (by rw [hw]; exact HP9.2); have hp_ : Kd.R k72 72 w10 w0.heap.size (fun k_ => (P0_ k_ ∨ w.heap.size ≤ k_)) (.slice (some ⟨go5, 0, none⟩) x0_1.length co8) y188 := (by rw [hw, Ny188.out]; exact HP9.1); clear HP9; replace HB := q_ ((z46_ : Below w0.heap.size w0 w10)); replace HK := q_ (Sim.set HK.out hw hx9_0 (Kd.R_typed HO_0.out _ rfl) (simV_int _ _ _) (fun hl_ => (HO_0.out.1 _ rfl).resolve_right (Nat.not_le.2 hl_))); replace HO_0 := q_ (hp_); clear hg hw hp_; have p6 : 0 ≤ (x5_1 : Int) := of_decide_eq_true z1_; have q6 : (x5_1 : Int) < ((x0_1.length : Int) : Int) := of_decide_eq_true z1_; obtain ⟨ce6, hcl6, hM6, hcc6, hfr6⟩ := Kd.R_elem HO_0.out z72 (x5_1 : Int) p6 q6; obtain rfl := k72_openM hM6; have hx6_0 : w10.cell? ⟨go5, (x5_1 : Int).toNat * 3, none⟩ = some (.int .i64 ((rd_T72 y188 x5_1).f0)) := hcc6 0 _ rfl; have hx6_1 : w10.cell? ⟨go5, (x5_1 : Int).toNat * 3 + 1, none⟩ = some (.int .i64 ((rd_T72 y188 x5_1).f1)) := hcc6 1 _ rfl; have hx6_2 : w10.cell? ⟨go5, (x5_1 : Int).toNat * 3 + 2, none⟩ = some (.int .i64 ((rd_T72 y188 x5_1).f2)) := hcc6 2 _ rfl; have hf6_0 : w10.frozen? ⟨go5, (x5_1 : Int).toNat * 3, none⟩ = false := hfr6 0; have hf6_1 : w10.frozen? ⟨go5, (x5_1 : Int).toNat * 3 + 1, none⟩ = false := hfr6 1; have hf6_2 : w10.frozen? ⟨go5, (x5_1 : Int).toNat * 3 + 2, none⟩ = false := hfr6 2; clear hcl6 hcc6 hfr6 hM6; replace p6 := eq_true p6; replace q6 := eq_true q6; have HX11 := q_ (show Kd.R k72 72 w10 w0.heap.size (fun k_ => (P0_ k_ ∨ w.heap.size ≤ k_)) (.slice (some ⟨go5, 0, none⟩) x0_1.length co8) y188 from z6_); obtain ⟨ce11, hcl11, hM11, hcc11, hfr11⟩ := Kd.R_elem HX11.out z72 (x5_1 : Int) (of_decide_eq_true z1_) z90_; obtain rfl := k72_openM hM11; have HP11 := Kd.R_seg HX11.out (x5_1 : Int) (of_decide_eq_true z1_) z90_ (seg := [.int .i64 (wrap64 (x1_1 + 1))]) (j := 1) hcl11 hcc11 (show 2 ≤ 3 from by decide) (x' := (⟨(rd_T72 y188 x5_1).f0, wrap64 (x1_1 + 1), (rd_T72 y188 x5_1).f2⟩ : S72)) (k72_mkM _ _ _ (⟨(rd_T72 y188 x5_1).f0, wrap64 (x1_1 + 1), (rd_T72 y188 x5_1).f2⟩ : S72) ) (fun _ hk => hk); have hx11_1 := hcc11 1 _ rfl; (try simp only [show (k72).sz = 3 from rfl, Nat.mul_one, Nat.add_zero] at hx11_1); have hf11_1 := hfr11 1; (try simp only [show (k72).sz = 3 from rfl, Nat.mul_one, Nat.add_zero] at hf11_1); clear hcl11 hcc11 hfr11 hM11) | ((with_reducible refine gate_store (t := 3) (p := 23) rfl ?_); refine store_event (t := 3) (p := 23) (v := ?vo_w12) (w1 := (w10.setCell ⟨go5, (x5_1 : Int).toNat * 3 + 1, none⟩ (.int .i64 (wrap64 (x1_1 + 1))))) ?hg ?ho ?hn ?hr ?_; (case ho => rfl); (case hg => rfl); (case hn => rfl); (case hr => exact z95_); intro w12 hw; have hg : w10.grownBy w12 (some go5) := (by rw [hw]; exact HP11.2); have hp_ : Kd.R k72 72 w12 w0.heap.size (fun k_ => (P0_ k_ ∨ w.heap.size ≤ k_)) (.slice (some ⟨go5, 0, none⟩) x0_1.length co8) y189 := (by rw [hw, Ny189.out]; exact HP11.1); clear HP11; replace HB := q_ ((z46_ : Below w0.heap.size w0 w12)); replace HK := q_ (Sim.set HK.out hw hx11_1 (Kd.R_typed HO_0.out _ rfl) (simV_int _ _ _) (fun hl_ => (HO_0.out.1 _ rfl).resolve_right (Nat.not_le.2 hl_))); replace HO_0 := q_ (hp_); clear hg hw hp_; have p7 : 0 ≤ (x5_1 : Int) := of_decide_eq_true z1_; have q7 : (x5_1 : Int) < ((x0_1.length : Int) : Int) := of_decide_eq_true z1_; obtain ⟨ce7, hcl7, hM7, hcc7, hfr7⟩ := Kd.R_elem HO_0.out z72 (x5_1 : Int) p7 q7; obtain rfl := k72_openM hM7; have hx7_0 : w12.cell? ⟨go5, (x5_1 : Int).toNat * 3, none⟩ = some (.int .i64 ((rd_T72 y189 x5_1).f0)) := hcc7 0 _ rfl; have hx7_1 : w12.cell? ⟨go5, (x5_1 : Int).toNat * 3 + 1, none⟩ = some (.int .i64 ((rd_T72 y189 x5_1).f1)) := hcc7 1 _ rfl; have hx7_2 : w12.cell? ⟨go5, (x5_1 : Int).toNat * 3 + 2, none⟩ = some (.int .i64 ((rd_T72 y189 x5_1).f2)) := hcc7 2 _ rfl; have hf7_0 : w12.frozen? ⟨go5, (x5_1 : Int).toNat * 3, none⟩ = false := hfr7 0; have hf7_1 : w12.frozen? ⟨go5, (x5_1 : Int).toNat * 3 + 1, none⟩ = false := hfr7 1; have hf7_2 : w12.frozen? ⟨go5, (x5_1 : Int).toNat * 3 + 2, none⟩ = false := hfr7 2; clear hcl7 hcc7 hfr7 hM7; replace p7 := eq_true p7; replace q7 := eq_true q7; have HX13 := q_ (show Kd.R k72 72 w12 w0.heap.size (fun k_ => (P0_ k_ ∨ w.heap.size ≤ k_)) (.slice (some ⟨go5, 0, none⟩) x0_1.length co8) y189 from z6_); obtain ⟨ce13, hcl13, hM13, hcc13, hfr13⟩ := Kd.R_elem HX13.out z72 (x5_1 : Int) (of_decide_eq_true z1_) z90_; obtain rfl := k72_openM hM13; have HP13 := Kd.R_seg HX13.out (x5_1 : Int) (of_decide_eq_true z1_) z90_ (seg := [.int .i64 (wrap64 ((wrap64 (x1_1 + 1)) + 1))]) (j := 2) hcl13 hcc13 (show 3 ≤ 3 from by decide) (x' := (⟨(rd_T72 y189 x5_1).f0, (rd_T72 y189 x5_1).f1, wrap64 ((wrap64 (x1_1 + 1)) + 1)⟩ : S72)) (k72_mkM _ _ _ (⟨(rd_T72 y189 x5_1).f0, (rd_T72 y189 x5_1).f1, wrap64 ((wrap64 (x1_1 + 1)) + 1)⟩ : S72) ) (fun _ hk => hk); have hx13_2 := hcc13 2 _ rfl; (try simp only [show (k72).sz = 3 from rfl, Nat.mul_one, Nat.add_zero] at hx13_2); have hf13_2 := hfr13 2; (try simp only [show (k72).sz = 3 from rfl, Nat.mul_one, Nat.add_zero] at hf13_2); clear hcl13 hcc13 hfr13 hM13) | ((with_reducible refine gate_store (t := 3) (p := 30) rfl ?_); refine store_event (t := 3) (p := 30) (v := ?vo_w14) (w1 := (w12.setCell ⟨go5, (x5_1 : Int).toNat * 3 + 2, none⟩ (.int .i64 (wrap64 ((wrap64 (x1_1 + 1)) + 1))))) ?hg ?ho ?hn ?hr ?_; (case ho => rfl); (case hg => rfl); (case hn => rfl); (case hr => exact z95_); intro w14 hw; have hg : w12.grownBy w14 (some go5) := (by rw [hw]; exact HP13.2); have hp_ : Kd.R k72 72 w14 w0.heap.size (fun k_ => (P0_ k_ ∨ w.heap.size ≤ k_)) (.slice (some ⟨go5, 0, none⟩) x0_1.length co8) y190 := (by rw [hw, Ny190.out]; exact HP13.1); clear HP13; replace HB := q_ ((z46_ : Below w0.heap.size w0 w14)); replace HK := q_ (Sim.set HK.out hw hx13_2 (Kd.R_typed HO_0.out _ rfl) (simV_int _ _ _) (fun hl_ => (HO_0.out.1 _ rfl).resolve_right (Nat.not_le.2 hl_))); replace HO_0 := q_ (hp_); clear hg hw hp_))
     go_roundg k1
     case measure => have := HK1.out; omega
     case rel => exact ⟨(y190), (wrap64 ((wrap64 ((wrap64 (x1_1 + 1)) + 1)) + 1)), (wrap64 (x5_1 + 1)), z4_, z4_, H', ⟨z25_⟩, ⟨z6_⟩, ⟨z37_⟩, ⟨cb_⟩⟩
    ·rw [if_neg c4] at H
     exact absurd H (by simp)
   ·rw [if_neg c3] at H
    have c3b0 : decide (x5_1 < (x0_1.length : Int)) = false := decide_eq_false c3
    clear c3
    simp only [Option.some.injEq, Prod.mk.injEq] at H
    obtain ⟨rfl, rfl⟩ := H
    obtain ⟨Ao15, co15, eo15⟩ := Kd.R_slice HO_0.out
    subst eo15
    go_wp2
    go_ret
    exact ⟨z2_, z6_, cb_, z37_⟩

theorem laws_markPairS_run (l : List S92) : ∀ (n : Nat) (t i : Int) (l' : List S92), l'.length = l.length → 0 ≤ i → i + (n : Int) = (l.length : Int) → 0 ≤ t → t + 2 * (n : Int) < 9223372036854775808 → (l.length : Int) ≤ 9223372036854775807 → ∃ r, laws_markPairS.l0 (n + 1) l' t i = some (t + 2 * (n : Int), r)
 | 0, t, i, l', hl, h0, h1, h2, h3, h4 => ⟨l', by simp only [laws_markPairS.l0]; rw [if_neg (by omega)]; simp⟩
 | n + 1, t, i, l', hl, h0, h1, h2, h3, h4 => by
  unfold laws_markPairS.l0
  rw [if_pos (by omega), if_pos h0]
  simp only [Option.bind_some]
  rw [mk_w64 (x := t + 1) (by omega) (by omega), mk_w64 (x := t + 1 + 1) (by omega) (by omega), mk_w64 (x := i + 1) (by omega) (by omega)]
  obtain ⟨r, hr⟩ := laws_markPairS_run l n (t + 1 + 1) (i + 1) ((l'.set i.toNat ⟨t, (rd_T92 l' i).f1⟩).set i.toNat ⟨(rd_T92 (l'.set i.toNat ⟨t, (rd_T92 l' i).f1⟩) i).f0, t + 1⟩) (by simp [hl]) (by omega) (by omega) (by omega) (by omega) h4
  exact ⟨r, by rw [hr]; congr 2; omega⟩
theorem laws_markIntS_run (l : List Int) : ∀ (n : Nat) (t i : Int) (l' : List Int), l'.length = l.length → 0 ≤ i → i + (n : Int) = (l.length : Int) → 0 ≤ t → t + (n : Int) < 9223372036854775808 → (l.length : Int) ≤ 9223372036854775807 → ∃ r, laws_markIntS.l0 (n + 1) l' t i = some (t + (n : Int), r)
 | 0, t, i, l', hl, h0, h1, h2, h3, h4 => ⟨l', by simp only [laws_markIntS.l0]; rw [if_neg (by omega)]; simp⟩
 | n + 1, t, i, l', hl, h0, h1, h2, h3, h4 => by
  unfold laws_markIntS.l0
  rw [if_pos (by omega), if_pos h0]
  rw [mk_w64 (x := t + 1) (by omega) (by omega), mk_w64 (x := i + 1) (by omega) (by omega)]
  obtain ⟨r, hr⟩ := laws_markIntS_run l n (t + 1) (i + 1) (l'.set i.toNat t) (by simp [hl]) (by omega) (by omega) (by omega) (by omega) h4
  exact ⟨r, by rw [hr]; congr 2; omega⟩
theorem laws_markMsgS_run (l : List S72) : ∀ (n : Nat) (t i : Int) (l' : List S72), l'.length = l.length → 0 ≤ i → i + (n : Int) = (l.length : Int) → 0 ≤ t → t + 3 * (n : Int) < 9223372036854775808 → (l.length : Int) ≤ 9223372036854775807 → ∃ r, laws_markMsgS.l0 (n + 1) l' t i = some (t + 3 * (n : Int), r)
 | 0, t, i, l', hl, h0, h1, h2, h3, h4 => ⟨l', by simp only [laws_markMsgS.l0]; rw [if_neg (by omega)]; simp⟩
 | n + 1, t, i, l', hl, h0, h1, h2, h3, h4 => by
  unfold laws_markMsgS.l0
  rw [if_pos (by omega), if_pos h0]
  simp only [Option.bind_some]
  rw [mk_w64 (x := t + 1) (by omega) (by omega), mk_w64 (x := t + 1 + 1) (by omega) (by omega), mk_w64 (x := t + 1 + 1 + 1) (by omega) (by omega), mk_w64 (x := i + 1) (by omega) (by omega)]
  generalize hq : (List.set (List.set (List.set l' _ _) _ _) _ _) = l2
  obtain ⟨r, hr⟩ := laws_markMsgS_run l n (t + 1 + 1 + 1) (i + 1) l2 (by rw [← hq]; simp [hl]) (by omega) (by omega) (by omega) (by omega) h4
  exact ⟨r, by rw [hr]; congr 2; omega⟩
theorem laws_markPairS.mark (P_ : Nat → Prop) (u : Value) (l : List S92) (t : Int) (w0 w : World) (hB : Below w0.heap.size w0 w) (ho : Kd.R k92 92 w w0.heap.size P_ u l) (h0 : 0 ≤ t) (h1 : t + 2 * (l.length : Int) < 9223372036854775808) :
  Calls Try.prog 39 #[u, .int .i64 t] w fun e w' => e = .returned (.int .i64 (t + 2 * (l.length : Int))) ∧ Below w0.heap.size w0 w' ∧ Sim w w' P_ := by
 obtain ⟨A, c, hu, hl, hC⟩ := Kd.R_reads ho
 obtain ⟨r, hr⟩ := laws_markPairS_run l l.length t 0 l rfl (by omega) (by omega) h0 h1 (by have := hC.2.1; omega)
 exact (laws_markPairS.sim (l.length + 1) P_ u l t _ r w0 w hB ho hr).mono (fun e w' h => ⟨h.1, h.2.2.1, h.2.2.2⟩)
theorem laws_markIntS.mark (P_ : Nat → Prop) (u : Value) (l : List Int) (t : Int) (w0 w : World) (hB : Below w0.heap.size w0 w) (ho : Kd.R (Kd.int .i64) 3 w w0.heap.size P_ u l) (h0 : 0 ≤ t) (h1 : t + (l.length : Int) < 9223372036854775808) :
  Calls Try.prog 74 #[u, .int .i64 t] w fun e w' => e = .returned (.int .i64 (t + (l.length : Int))) ∧ Below w0.heap.size w0 w' ∧ Sim w w' P_ := by
 obtain ⟨A, c, hu, hl, hC⟩ := Kd.R_reads ho
 obtain ⟨r, hr⟩ := laws_markIntS_run l l.length t 0 l rfl (by omega) (by omega) h0 h1 (by have := hC.2.1; omega)
 exact (laws_markIntS.sim (l.length + 1) P_ u l t _ r w0 w hB ho hr).mono (fun e w' h => ⟨h.1, h.2.2.1, h.2.2.2⟩)
theorem laws_markMsgS.mark (P_ : Nat → Prop) (u : Value) (l : List S72) (t : Int) (w0 w : World) (hB : Below w0.heap.size w0 w) (ho : Kd.R k72 72 w w0.heap.size P_ u l) (h0 : 0 ≤ t) (h1 : t + 3 * (l.length : Int) < 9223372036854775808) :
  Calls Try.prog 30 #[u, .int .i64 t] w fun e w' => e = .returned (.int .i64 (t + 3 * (l.length : Int))) ∧ Below w0.heap.size w0 w' ∧ Sim w w' P_ := by
 obtain ⟨A, c, hu, hl, hC⟩ := Kd.R_reads ho
 obtain ⟨r, hr⟩ := laws_markMsgS_run l l.length t 0 l rfl (by omega) (by omega) h0 h1 (by have := hC.2.1; omega)
 exact (laws_markMsgS.sim (l.length + 1) P_ u l t _ r w0 w hB ho hr).mono (fun e w' h => ⟨h.1, h.2.2.1, h.2.2.2⟩)
theorem mark_at {w wr : World} {P_ : Nat → Prop} {base g n c : Nat} {l0 : List S34} (hs : Sim w wr P_) (ho : Kd.R k34 34 w base P_ (.slice (some ⟨g, 0, none⟩) n c) l0) (i : Int) (h0 : 0 ≤ i) (h1 : i < n) :
  ∃ (y : S34) (A1 : Option Addr) (c1 : Nat) (A2 : Option Addr) (c2 : Nat) (A3 : Option Addr) (c3 : Nat) (A4 : Option Addr) (c4 : Nat), relT (rd_T34 l0 i) y ∧ wr.cell? ⟨g, i.toNat * 5, none⟩ = some (.bool y.f0) ∧ wr.frozen? ⟨g, i.toNat * 5, none⟩ = false ∧
   wr.cell? ⟨g, i.toNat * 5 + 1, none⟩ = some (.slice A1 y.f1.length c1) ∧ wr.cell? ⟨g, i.toNat * 5 + 2, none⟩ = some (.slice A2 y.f2.length c2) ∧ wr.cell? ⟨g, i.toNat * 5 + 3, none⟩ = some (.slice A3 y.f3.length c3) ∧ wr.cell? ⟨g, i.toNat * 5 + 4, none⟩ = some (.slice A4 y.f4.length c4) ∧
   Kd.R k92 92 wr base (fun k => P_ k ∧ k ≠ g) (.slice A1 y.f1.length c1) y.f1 ∧ Kd.R (Kd.int .i64) 3 wr base (fun k => P_ k ∧ k ≠ g) (.slice A2 y.f2.length c2) y.f2 ∧ Kd.R k34 34 wr base (fun k => P_ k ∧ k ≠ g) (.slice A3 y.f3.length c3) y.f3 ∧ Kd.R k72 72 wr base (fun k => P_ k ∧ k ≠ g) (.slice A4 y.f4.length c4) y.f4 ∧
   ∃ cells, wr.heap[g]? = some (.cells cells 34 (0, 0)) := by
 have hn := (Kd.R_reads' ho).1
 obtain ⟨z0, hz0, hr0, H0⟩ := R_sim34 hs ho
 have hx5 : l0[i.toNat]? = some (rd_T34 l0 i) := by
  unfold rd_T34
  rw [List.getD_eq_getElem?_getD, List.getElem?_eq_getElem (by omega)]
  rfl
 obtain ⟨y, hy, hq⟩ := hr0 _ _ hx5
 obtain ⟨ce, hcl, hM, hcc, hfr⟩ := Kd.R_elem H0 z34 i h0 h1
 have hy' : z0.getD i.toNat z34 = y := by rw [List.getD_eq_getElem?_getD, hy]; rfl
 rw [hy'] at hM
 obtain ⟨v1, v2, v3, v4, rfl, g1, g2, g3, g4⟩ := k34_openM hM
 obtain ⟨A1, c1, rfl⟩ := Kd.R_slice g1
 obtain ⟨A2, c2, rfl⟩ := Kd.R_slice g2
 obtain ⟨A3, c3, rfl⟩ := Kd.R_slice g3
 obtain ⟨A4, c4, rfl⟩ := Kd.R_slice g4
 exact ⟨y, A1, c1, A2, c2, A3, c3, A4, c4, hq, hcc 0 _ rfl, hfr 0, hcc 1 _ rfl, hcc 2 _ rfl, hcc 3 _ rfl, hcc 4 _ rfl, g1, g2, g3, g4, Kd.R_typed H0 g rfl⟩
set_option maxHeartbeats 8000000 in
set_option maxRecDepth 100000 in
theorem laws_markTreeS.mark : ∀ (n : Nat) (P_ : Nat → Prop) (u : Value) (l0 : List S34) (a1 : Int) (w0 w : World), cntL l0 < n → Below w0.heap.size w0 w → Kd.R k34 34 w w0.heap.size P_ u l0 → 0 ≤ a1 → a1 + (cntL l0 : Int) < 9223372036854775808 →
  Calls Try.prog 75 #[u, .int .i64 a1] w fun e w' => e = .returned (.int .i64 (a1 + (cntL l0 : Int))) ∧ Below w0.heap.size w0 w' ∧ Sim w w' P_
 | 0, _, _, _, _, _, _, hn, _, _, _, _ => absurd hn (by omega)
 | n + 1, P_, u, l0, a1, w0, w, hn, hB, ho, h0, h1 => by
  have IH := q_ (laws_markTreeS.mark n)
  have hu34 := Try.underlying34
  obtain ⟨A, c, rfl, hlc, hC⟩ := Kd.R_reads ho
  have HL := q_ hC.2.1
  have HO := q_ ho
  have HN := q_ hn
  have HA := q_ (And.intro h0 h1)
  have HB := q_ hB
  have HK := q_ (Sim.refl w P_)
  clear ho hB hC hlc hn h0 h1
  go_enter Try.func75, Try.ntmps75
  go_wp2
  go_loopg [1, 5] l0.length (fun kq v1 v5 w' => ∃ (x5_1 : Int), v1 = .int .i64 (a1 + (cntL (l0.take x5_1.toNat) : Int)) ∧ v5 = .int .i64 x5_1 ∧ Aside0 (0 ≤ x5_1 ∧ x5_1 + (kq : Int) = (l0.length : Int)) ∧ Aside0 (Sim w w' P_) ∧ Aside0 (Below w0.heap.size w0 w'))
  case atStart => exact ⟨0, by simp [cntL], rfl, ⟨by omega⟩, ⟨HK.out⟩, ⟨cb_⟩⟩
  case round =>
   clear HK HB
   obtain ⟨x5_1, rfl, rfl, HI, HK, HB⟩ := hrel
   by_cases c3 : x5_1 < (l0.length : Int)
   ·have c3b0 : decide (x5_1 < (l0.length : Int)) = true := decide_eq_true c3
    obtain ⟨k1, rfl⟩ : ∃ k1, gk = k1 + 1 := ⟨gk - 1, z89_⟩
    obtain ⟨go5, co5, eo5, gb5, gl5, cl5, HG5⟩ := Kd.R_form HO.out z89_
    injection eo5 with ea_ en_ ec_
    subst ea_
    subst ec_
    clear en_
    have GB5 := q_ gb5
    clear gb5 gl5 HG5
    have hx5 : l0[x5_1.toNat]? = some (rd_T34 l0 x5_1) := by
     unfold rd_T34
     rw [List.getD_eq_getElem?_getD, List.getElem?_eq_getElem z89_]
     rfl
    have HC := q_ (And.intro (cntL_take hx5) (And.intro (cntL_take_le l0 (x5_1.toNat + 1)) (cntT_eq (rd_T34 l0 x5_1))))
    clear hx5
    obtain ⟨y0, A1_0, c1_0, A2_0, c2_0, A3_0, c3_0, A4_0, c4_0, hq0, hx0_0, hf0_0, hx0_1, hx0_2, hx0_3, hx0_4, g0_1, g0_2, g0_3, g0_4, ht0⟩ := mark_at HK.out HO.out x5_1 HI.out.1 c3
    have HQ0 := q_ hq0
    have HT0 := q_ ht0
    clear hq0 ht0 g0_1 g0_2 g0_3 g0_4
    have p5 := eq_true HI.out.1
    have q5 := eq_true c3
    have HX5 := q_ c3
    clear c3
    generalize ht_ : a1 + (cntL (l0.take x5_1.toNat) : Int) = t
    have HT := q_ ht_
    clear ht_
    go_wp2_with (first
     | ((with_reducible refine gate_store (t := 4) (p := 18) rfl ?_); refine store_event (t := 4) (p := 18) (v := ?vo_w9) (w1 := (wr.setCell ⟨go5, (x5_1 : Int).toNat * 5, none⟩ (.bool ((Int.tmod t 3) == 0)))) ?hg ?ho ?hn ?hr ?_; (case ho => rfl); (case hg => rfl); (case hn => rfl); (case hr => exact z95_); intro w9 hw; replace HK := q_ (Sim.set HK.out hw hx0_0 HT0.out (simV_bool _ _) (fun _ => HO.out.1 _ rfl)); replace HB := q_ ((z46_ : Below w0.heap.size w0 w9)); clear hw HT0 hx0_0 hx0_1 hx0_2 hx0_3 hx0_4 hf0_0; obtain ⟨y1, A1_1, c1_1, A2_1, c2_1, A3_1, c3_1, A4_1, c4_1, hq1, hx1_0, hf1_0, hx1_1, hx1_2, hx1_3, hx1_4, g1_1, g1_2, g1_3, g1_4, ht1⟩ := mark_at HK.out HO.out x5_1 HI.out.1 HX5.out; have HQ1 := q_ hq1; have HG1 := q_ g1_1; clear hq1 ht1 g1_1 g1_2 g1_3 g1_4)
     | ((with_reducible refine gate_callee (f := 39) rfl ?_); refine goesL_ (some 27) rfl rfl Try.func39 (by kernel_rfl) rfl #[.slice A1_1 y1.f1.length c1_1, .int .i64 (wrap64 (t + 1))] rfl z36_ ?_; (with_reducible refine (laws_markPairS.mark _ _ y1.f1 (wrap64 (t + 1)) w0 _ HB.out HG1.out ?s0 ?s1).mono ?_); (case s0 => exact z126_); (case s1 => have h1 := HT.out; have h2 := HA.out; have h3 := HC.out; have h4 := HQ1.out; unfold relT at h4; rw [mk_w64] <;> omega); rintro e w10 ⟨rfl, hb, hs⟩; refine ⟨_, rfl, ?_⟩; have n0_ := q_ (Sim.trans HK.out hs (fun _ _ h_ => h_.1)); clear HK HB HG1 hs hx1_0 hx1_1 hx1_2 hx1_3 hx1_4 hf1_0; have HK := n0_; have HB := q_ hb; clear n0_ hb; obtain ⟨y2, A1_2, c1_2, A2_2, c2_2, A3_2, c3_2, A4_2, c4_2, hq2, hx2_0, hf2_0, hx2_1, hx2_2, hx2_3, hx2_4, g2_1, g2_2, g2_3, g2_4, ht2⟩ := mark_at HK.out HO.out x5_1 HI.out.1 HX5.out; have HQ2 := q_ hq2; have HG2 := q_ g2_2; clear hq2 ht2 g2_1 g2_2 g2_3 g2_4)
     | ((with_reducible refine gate_callee (f := 74) rfl ?_); refine goesL_ (some 34) rfl rfl Try.func74 (by kernel_rfl) rfl #[.slice A2_2 y2.f2.length c2_2, .int .i64 (wrap64 (t + 1) + 2 * (y1.f1.length : Int))] rfl z36_ ?_; (with_reducible refine (laws_markIntS.mark _ _ y2.f2 (wrap64 (t + 1) + 2 * (y1.f1.length : Int)) w0 _ HB.out HG2.out ?s0 ?s1).mono ?_); (case s0 => exact z126_); (case s1 => have h1 := HT.out; have h2 := HA.out; have h3 := HC.out; have h4 := HQ1.out; have h5 := HQ2.out; unfold relT at h4 h5; rw [mk_w64] <;> omega); rintro e w11 ⟨rfl, hb, hs⟩; refine ⟨_, rfl, ?_⟩; have n0_ := q_ (Sim.trans HK.out hs (fun _ _ h_ => h_.1)); clear HK HB HG2 hs hx2_0 hx2_1 hx2_2 hx2_3 hx2_4 hf2_0; have HK := n0_; have HB := q_ hb; clear n0_ hb; obtain ⟨y3, A1_3, c1_3, A2_3, c2_3, A3_3, c3_3, A4_3, c4_3, hq3, hx3_0, hf3_0, hx3_1, hx3_2, hx3_3, hx3_4, g3_1, g3_2, g3_3, g3_4, ht3⟩ := mark_at HK.out HO.out x5_1 HI.out.1 HX5.out; have HQ3 := q_ hq3; have HG3 := q_ g3_3; clear hq3 ht3 g3_1 g3_2 g3_3 g3_4)
     | ((with_reducible refine gate_callee (f := 75) rfl ?_); refine goesL_ (some 41) rfl rfl Try.func75 (by kernel_rfl) rfl #[.slice A3_3 y3.f3.length c3_3, .int .i64 (wrap64 (t + 1) + 2 * (y1.f1.length : Int) + (y2.f2.length : Int))] rfl z36_ ?_; (with_reducible refine (IH.out _ _ y3.f3 (wrap64 (t + 1) + 2 * (y1.f1.length : Int) + (y2.f2.length : Int)) w0 _ ?s2 HB.out HG3.out ?s0 ?s1).mono ?_); (case s2 => have h1 := HN.out; have h3 := HC.out; have h4 := HQ3.out; unfold relT at h4; omega); (case s0 => exact z126_); (case s1 => have h1 := HT.out; have h2 := HA.out; have h3 := HC.out; have h4 := HQ1.out; have h5 := HQ2.out; have h6 := HQ3.out; unfold relT at h4 h5 h6; rw [mk_w64] <;> omega); rintro e w12 ⟨rfl, hb, hs⟩; refine ⟨_, rfl, ?_⟩; have n0_ := q_ (Sim.trans HK.out hs (fun _ _ h_ => h_.1)); clear HK HB HG3 hs hx3_0 hx3_1 hx3_2 hx3_3 hx3_4 hf3_0; have HK := n0_; have HB := q_ hb; clear n0_ hb; obtain ⟨y4, A1_4, c1_4, A2_4, c2_4, A3_4, c3_4, A4_4, c4_4, hq4, hx4_0, hf4_0, hx4_1, hx4_2, hx4_3, hx4_4, g4_1, g4_2, g4_3, g4_4, ht4⟩ := mark_at HK.out HO.out x5_1 HI.out.1 HX5.out; have HQ4 := q_ hq4; have HG4 := q_ g4_4; clear hq4 ht4 g4_1 g4_2 g4_3 g4_4)
     | ((with_reducible refine gate_callee (f := 30) rfl ?_); refine goesL_ (some 48) rfl rfl Try.func30 (by kernel_rfl) rfl #[.slice A4_4 y4.f4.length c4_4, .int .i64 (wrap64 (t + 1) + 2 * (y1.f1.length : Int) + (y2.f2.length : Int) + (cntL y3.f3 : Int))] rfl z36_ ?_; (with_reducible refine (laws_markMsgS.mark _ _ y4.f4 (wrap64 (t + 1) + 2 * (y1.f1.length : Int) + (y2.f2.length : Int) + (cntL y3.f3 : Int)) w0 _ HB.out HG4.out ?s0 ?s1).mono ?_); (case s0 => exact z126_); (case s1 => have h1 := HT.out; have h2 := HA.out; have h3 := HC.out; have h4 := HQ1.out; have h5 := HQ2.out; have h6 := HQ3.out; have h7 := HQ4.out; unfold relT at h4 h5 h6 h7; rw [mk_w64] <;> omega); rintro e w13 ⟨rfl, hb, hs⟩; refine ⟨_, rfl, ?_⟩; have n0_ := q_ (Sim.trans HK.out hs (fun _ _ h_ => h_.1)); clear HK HB HG4 hs; have HK := n0_; have HB := q_ hb; clear n0_ hb))
    go_roundg k1
    case measure => omega
    case rel =>
     have h1 := HT.out
     have h2 := HA.out
     have h3 := HC.out
     have h4 := HQ1.out
     have h5 := HQ2.out
     have h6 := HQ3.out
     have h7 := HQ4.out
     have h8 := HI.out
     have h9 := HL.out
     have h10 := HX5.out
     unfold relT at h4 h5 h6 h7
     refine ⟨x5_1 + 1, ?_, ?_, ⟨by omega⟩, HK, HB⟩
     ·rw [mk_w64 (x := t + 1) (by omega) (by omega), show (x5_1 + 1).toNat = x5_1.toNat + 1 by omega]
      congr 1
      omega
     ·rw [mk_w64 (x := x5_1 + 1) (by omega) (by omega)]
   ·have c3b0 : decide (x5_1 < (l0.length : Int)) = false := decide_eq_false c3
    have hx : l0.take x5_1.toNat = l0 := List.take_of_length_le z89_
    rw [hx]
    clear hx c3
    go_wp2
    go_ret
    exact ⟨rfl, HB.out, HK.out⟩

/-! ### laws_markTree: function 29 -/
def laws_markTree.f (a0_0 : Bool) (l0_1 : List S92) (l0_2 : List Int) (l0_3 : List S34) (l0_4 : List S72) (a1 : Int) : Option Int := if 0 ≤ a1 ∧ a1 + 2 * (l0_1.length : Int) + (l0_2.length : Int) + (cntL l0_3 : Int) + 3 * (l0_4.length : Int) < 9223372036854775808 then some (a1 + 2 * (l0_1.length : Int) + (l0_2.length : Int) + (cntL l0_3 : Int) + 3 * (l0_4.length : Int)) else none
set_option maxHeartbeats 8000000 in
set_option maxRecDepth 100000 in
theorem laws_markTree.calls (a0_0 : Bool) (P1_ : Nat → Prop) (u1 : Value) (l0_1 : List S92) (P2_ : Nat → Prop) (u2 : Value) (l0_2 : List Int) (P3_ : Nat → Prop) (u3 : Value) (l0_3 : List S34) (P4_ : Nat → Prop) (u4 : Value) (l0_4 : List S72) (a1 : Int) (r : Int) (w0 w : World) (hB : Below w0.heap.size w0 w)
  (ho1 : Kd.R k92 92 w w0.heap.size P1_ u1 l0_1) (ho2 : Kd.R (Kd.int .i64) 3 w w0.heap.size P2_ u2 l0_2) (ho3 : Kd.R k34 34 w w0.heap.size P3_ u3 l0_3) (ho4 : Kd.R k72 72 w w0.heap.size P4_ u4 l0_4) (h : laws_markTree.f a0_0 l0_1 l0_2 l0_3 l0_4 a1 = some r) :
  Calls Try.prog 29 #[.agg #[.bool a0_0, u1, u2, u3, u4], .int .i64 a1] w fun e w' => e = .returned (.int .i64 r) ∧ Below w0.heap.size w0 w' ∧ Kept w w' (fun k_ => P1_ k_ ∨ P2_ k_ ∨ P3_ k_ ∨ P4_ k_) := by
 unfold laws_markTree.f at h
 by_cases hc_ : 0 ≤ a1 ∧ a1 + 2 * (l0_1.length : Int) + (l0_2.length : Int) + (cntL l0_3 : Int) + 3 * (l0_4.length : Int) < 9223372036854775808
 case neg => rw [if_neg hc_] at h; cases h
 rw [if_pos hc_] at h
 obtain rfl := Option.some.inj h
 have HA := q_ hc_
 clear h hc_
 have hu34 := Try.underlying34
 obtain ⟨A1, c1, rfl⟩ := Kd.R_slice ho1
 obtain ⟨A2, c2, rfl⟩ := Kd.R_slice ho2
 obtain ⟨A3, c3, rfl⟩ := Kd.R_slice ho3
 obtain ⟨A4, c4, rfl⟩ := Kd.R_slice ho4
 have O1 := q_ (Kd.R_mono (ok' := fun k => P1_ k ∧ k < w.heap.size) (Kd.R_bound ho1) (fun _ hk => ⟨hk.1, hk.2.2.1⟩))
 have O2 := q_ (Kd.R_mono (ok' := fun k => P2_ k ∧ k < w.heap.size) (Kd.R_bound ho2) (fun _ hk => ⟨hk.1, hk.2.2.1⟩))
 have O3 := q_ (Kd.R_mono (ok' := fun k => P3_ k ∧ k < w.heap.size) (Kd.R_bound ho3) (fun _ hk => ⟨hk.1, hk.2.2.1⟩))
 have O4 := q_ (Kd.R_mono (ok' := fun k => P4_ k ∧ k < w.heap.size) (Kd.R_bound ho4) (fun _ hk => ⟨hk.1, hk.2.2.1⟩))
 have HB := q_ hB
 clear ho1 ho2 ho3 ho4 hB
 go_enter Try.func29, Try.ntmps29
 go_wp2_with (first
  | ((with_reducible refine gate_dst (N := 2) rfl ?_); refine box_event ?hg (N := 2) ?hd (cs := #[.bool a0_0, .slice A1 l0_1.length c1, .slice A2 l0_2.length c2, .slice A3 l0_3.length c3, .slice A4 l0_4.length c4]) (t := 34) ?hr ?_; (case hd => rfl); (case hg => rfl); (case hr => exact z95_); intro gb1 hg w5 hbox hb; have GE := q_ (show w.heap.size ≤ gb1 from by rw [hg]; exact Nat.le_refl _); have HK := q_ (Sim.below (S := fun k_ => P1_ k_ ∨ P2_ k_ ∨ P3_ k_ ∨ P4_ k_) hb); have n0_ := q_ (below_step HB.out hb); have BK := q_ hbox; have n1_ := q_ (Kd.R_below O1.out hb); have n2_ := q_ (Kd.R_below O2.out hb); have n3_ := q_ (Kd.R_below O3.out hb); have n4_ := q_ (Kd.R_below O4.out hb); clear HB O1 O2 O3 O4 hg hbox hb; have HB := n0_; have O1 := n1_; have O2 := n2_; have O3 := n3_; have O4 := n4_; clear n0_ n1_ n2_ n3_ n4_; obtain ⟨hc0_0, hc0_1, hc0_2, hc0_3, hc0_4, hf0_0, hf0_1, hf0_2, hf0_3, hf0_4⟩ := cs5_ BK.out)
  | ((with_reducible refine gate_callee (f := 39) rfl ?_); refine goesL_ (some 8) rfl rfl Try.func39 (by kernel_rfl) rfl #[.slice A1 l0_1.length c1, .int .i64 a1] rfl z36_ ?_; (with_reducible refine (laws_markPairS.mark _ _ l0_1 a1 w0 _ HB.out O1.out ?s0 ?s1).mono ?_); (case s0 => have h2 := HA.out; omega); (case s1 => have h2 := HA.out; omega); rintro e w6 ⟨rfl, hb, hs⟩; refine ⟨_, rfl, ?_⟩; have n0_ := q_ (Sim.trans HK.out hs (fun _ _ h_ => .inl h_.1)); have n1_ := q_ (blk_kept BK.out hs.kept (fun h_ => Nat.not_lt.2 GE.out h_.2)); obtain ⟨y2, e2, _, g2⟩ := R_sim (rel := fun _ _ => True) hs O2.out (fun _ _ _ _ _ hm hc => simI hm hc); obtain ⟨y3, e3, q3, g3⟩ := R_sim34 hs O3.out; obtain ⟨y4, e4, _, g4⟩ := R_sim (rel := fun _ _ => True) hs O4.out (fun _ _ _ _ _ hm hc => sim72 hm hc); have E2 := q_ e2; have E3 := q_ (cntL_rel _ _ e3 q3); have E4 := q_ e4; clear HK HB BK O1 O2 O3 O4 hs e2 e3 q3 e4 hc0_0 hc0_1 hc0_2 hc0_3 hc0_4 hf0_0 hf0_1 hf0_2 hf0_3 hf0_4; have HK := n0_; have BK := n1_; have HB := q_ hb; have O2 := q_ g2; have O3 := q_ g3; have O4 := q_ g4; clear n0_ n1_ hb g2 g3 g4; obtain ⟨hc1_0, hc1_1, hc1_2, hc1_3, hc1_4, hf1_0, hf1_1, hf1_2, hf1_3, hf1_4⟩ := cs5_ BK.out)
  | ((with_reducible refine gate_callee (f := 74) rfl ?_); refine goesL_ (some 12) rfl rfl Try.func74 (by kernel_rfl) rfl #[.slice A2 l0_2.length c2, .int .i64 (a1 + 2 * (l0_1.length : Int))] rfl z36_ ?_; (with_reducible refine (laws_markIntS.mark _ _ y2 (a1 + 2 * (l0_1.length : Int)) w0 _ HB.out O2.out ?s0 ?s1).mono ?_); (case s0 => have h2 := HA.out; omega); (case s1 => have h2 := HA.out; have h3 := E2.out; omega); rintro e w7 ⟨rfl, hb, hs⟩; refine ⟨_, rfl, ?_⟩; have n0_ := q_ (Sim.trans HK.out hs (fun _ _ h_ => .inr (.inl h_.1))); have n1_ := q_ (blk_kept BK.out hs.kept (fun h_ => Nat.not_lt.2 GE.out h_.2)); obtain ⟨z3, e3, q3, g3⟩ := R_sim34 hs O3.out; obtain ⟨z4, e4, _, g4⟩ := R_sim (rel := fun _ _ => True) hs O4.out (fun _ _ _ _ _ hm hc => sim72 hm hc); have F3 := q_ (cntL_rel _ _ e3 q3); have F4 := q_ e4; clear HK HB BK O2 O3 O4 hs e3 q3 e4 hc1_0 hc1_1 hc1_2 hc1_3 hc1_4 hf1_0 hf1_1 hf1_2 hf1_3 hf1_4; have HK := n0_; have BK := n1_; have HB := q_ hb; have O3 := q_ g3; have O4 := q_ g4; clear n0_ n1_ hb g3 g4; obtain ⟨hc2_0, hc2_1, hc2_2, hc2_3, hc2_4, hf2_0, hf2_1, hf2_2, hf2_3, hf2_4⟩ := cs5_ BK.out)
  | ((with_reducible refine gate_callee (f := 75) rfl ?_); refine goesL_ (some 16) rfl rfl Try.func75 (by kernel_rfl) rfl #[.slice A3 l0_3.length c3, .int .i64 (a1 + 2 * (l0_1.length : Int) + (y2.length : Int))] rfl z36_ ?_; (with_reducible refine (laws_markTreeS.mark (cntL z3 + 1) _ _ z3 (a1 + 2 * (l0_1.length : Int) + (y2.length : Int)) w0 _ (Nat.lt_succ_self _) HB.out O3.out ?s0 ?s1).mono ?_); (case s0 => have h2 := HA.out; omega); (case s1 => have h2 := HA.out; have h3 := E2.out; have h4 := E3.out; have h5 := F3.out; omega); rintro e w8 ⟨rfl, hb, hs⟩; refine ⟨_, rfl, ?_⟩; have n0_ := q_ (Sim.trans HK.out hs (fun _ _ h_ => .inr (.inr (.inl h_.1)))); have n1_ := q_ (blk_kept BK.out hs.kept (fun h_ => Nat.not_lt.2 GE.out h_.2)); obtain ⟨x4, e4, _, g4⟩ := R_sim (rel := fun _ _ => True) hs O4.out (fun _ _ _ _ _ hm hc => sim72 hm hc); have G4 := q_ e4; clear HK HB BK O3 O4 hs e4 hc2_0 hc2_1 hc2_2 hc2_3 hc2_4 hf2_0 hf2_1 hf2_2 hf2_3 hf2_4; have HK := n0_; have BK := n1_; have HB := q_ hb; have O4 := q_ g4; clear n0_ n1_ hb g4; obtain ⟨hc3_0, hc3_1, hc3_2, hc3_3, hc3_4, hf3_0, hf3_1, hf3_2, hf3_3, hf3_4⟩ := cs5_ BK.out)
  | ((with_reducible refine gate_callee (f := 30) rfl ?_); refine goesL_ (some 20) rfl rfl Try.func30 (by kernel_rfl) rfl #[.slice A4 l0_4.length c4, .int .i64 (a1 + 2 * (l0_1.length : Int) + (y2.length : Int) + (cntL z3 : Int))] rfl z36_ ?_; (with_reducible refine (laws_markMsgS.mark _ _ x4 (a1 + 2 * (l0_1.length : Int) + (y2.length : Int) + (cntL z3 : Int)) w0 _ HB.out O4.out ?s0 ?s1).mono ?_); (case s0 => have h2 := HA.out; omega); (case s1 => have h2 := HA.out; have h3 := E2.out; have h4 := E3.out; have h5 := F3.out; have h6 := E4.out; have h7 := F4.out; have h8 := G4.out; omega); rintro e w9 ⟨rfl, hb, hs⟩; refine ⟨_, rfl, ?_⟩; have n0_ := q_ (Sim.trans HK.out hs (fun _ _ h_ => .inr (.inr (.inr h_.1)))); clear HK HB BK O4 hs; have HK := n0_; have HB := q_ hb; clear n0_ hb))
 go_ret
 have h3 := E2.out
 have h4 := E3.out
 have h5 := F3.out
 have h6 := E4.out
 have h7 := F4.out
 have h8 := G4.out
 rw [show a1 + 2 * (l0_1.length : Int) + (y2.length : Int) + (cntL z3 : Int) + 3 * (x4.length : Int) = a1 + 2 * (l0_1.length : Int) + (l0_2.length : Int) + (cntL l0_3 : Int) + 3 * (l0_4.length : Int) by omega]
 exact ⟨rfl, HB.out, HK.out.kept⟩

end Go.Proofs.Ytfnndcpaldkkoaa.PFnExactTreeRange
