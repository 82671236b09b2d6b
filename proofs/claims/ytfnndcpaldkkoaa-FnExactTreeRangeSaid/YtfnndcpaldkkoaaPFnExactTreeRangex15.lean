-- Written by a program of this session, which goes by the kit's print. Not trusted: Lean checks it.
import Derived.Test.YtfnndcpaldkkoaaPFnExactTreeRangex0
import Derived.Test.YtfnndcpaldkkoaaPFnExactTreeRangex14
namespace Go.Proofs.Ytfnndcpaldkkoaa.PFnExactTreeRange
open Go.RowKit Go.Proofs.YtfnndcpaldkkoaaW.PrintWords Go.Proofs.YtfnndcpaldkkoaaW.PrintLast Go.Proofs.YtfnndcpaldkkoaaW.PrintMore
attribute [local go_sem] Instr.field asAgg max2_int min2_int max_two min_two max_three min_three max_four min_four   -- for this text's walks alone
set_option linter.unusedVariables false
set_option linter.unusedSimpArgs false

/-! ### impl_TreeDepth: function 18 -/
def impl_TreeDepth.f (k : Nat) (a0_0 : Bool) (l0_1 : List (S92)) (l0_2 : List Int) (l0_3 : List (S34)) (l0_4 : List (S72)) : Option (Int) := (impl_depthOf.f k a0_0 l0_1 l0_2 l0_3 l0_4 0 1000 7).bind fun t374 => (some t374)
theorem impl_TreeDepth.mono : ∀ a0 a1 a2 a3 a4 k, LeO (impl_TreeDepth.f k a0 a1 a2 a3 a4) (impl_TreeDepth.f (k + 1) a0 a1 a2 a3 a4) := by
 intro a0 a1 a2 a3 a4 k
 unfold impl_TreeDepth.f
 have m0 := @impl_depthOf.mono
 exact zm_
set_option maxHeartbeats 8000000 in
set_option maxRecDepth 100000 in
theorem impl_TreeDepth.calls (k : Nat) (a0_0 : Bool) (A0_1 : Option Addr) (c0_1 : Nat) (l0_1 : List (S92)) (A0_2 : Option Addr) (c0_2 : Nat) (l0_2 : List Int) (A0_3 : Option Addr) (c0_3 : Nat) (l0_3 : List (S34)) (A0_4 : Option Addr) (c0_4 : Nat) (l0_4 : List (S72)) (r : Int) (w : World) (hr0_1 : Kd.C k92 w A0_1 l0_1.length l0_1) (hc0_1 : l0_1.length ≤ c0_1) (hr0_2 : Kd.C (Kd.int .i64) w A0_2 l0_2.length l0_2) (hc0_2 : l0_2.length ≤ c0_2) (hr0_3 : Kd.C k34 w A0_3 l0_3.length l0_3) (hc0_3 : l0_3.length ≤ c0_3) (hr0_4 : Kd.C k72 w A0_4 l0_4.length l0_4) (hc0_4 : l0_4.length ≤ c0_4) (h : impl_TreeDepth.f k a0_0 l0_1 l0_2 l0_3 l0_4 = some r) :
  Calls Try.prog 18 #[.agg #[.bool a0_0, .slice A0_1 l0_1.length c0_1, .slice A0_2 l0_2.length c0_2, .slice A0_3 l0_3.length c0_3, .slice A0_4 l0_4.length c0_4]] w fun e w' => e = .returned (.int .i64 r) ∧ Below w.heap.size w w' := by
 have hu34 := Try.underlying34
 have HR0_1 := q_ hr0_1
 have HC0_1 := q_ hc0_1
 clear hr0_1 hc0_1
 have HR0_2 := q_ hr0_2
 have HC0_2 := q_ hc0_2
 clear hr0_2 hc0_2
 have HR0_3 := q_ hr0_3
 have HC0_3 := q_ hc0_3
 clear hr0_3 hc0_3
 have HR0_4 := q_ hr0_4
 have HC0_4 := q_ hc0_4
 clear hr0_4 hc0_4
 have HB := q_ (Below.refl w.heap.size w)
 have H := h; clear h
 unfold impl_TreeDepth.f at H
 replace H := bi_ H; obtain ⟨t374, A2, H⟩ := H
 obtain rfl := si_ H
 go_enter Try.func18, Try.ntmps18
 go_wp2_with (first | ((with_reducible refine gate_dst (N := 1) rfl ?_); refine box_event ?hg (N := 1) ?hd (cs := #[.bool a0_0, .slice A0_1 l0_1.length c0_1, .slice A0_2 l0_2.length c0_2, .slice A0_3 l0_3.length c0_3, .slice A0_4 l0_4.length c0_4]) (t := 34) ?hr ?_; (case hd => rfl); (case hg => rfl); (case hr => exact z95_); intro gb373 hg w3 hbox hb; have BK373 := q_ (hbox); have GW373 := ge_ hg; have GE373 := ge_ hg; replace HB := hb_ hb; clear hb hbox hg; obtain ⟨hz_, hz_, hz_, hz_, hz_, hz_, hz_, hz_, hz_, hz_⟩ := cs5_ BK373.out) | ((with_reducible refine gate_callee (f := 64) rfl ?_); refine goesL_ (some 4) rfl rfl Try.func64 (by kernel_rfl) rfl #[.agg #[.bool a0_0, .slice A0_1 l0_1.length c0_1, .slice A0_2 l0_2.length c0_2, .slice A0_3 l0_3.length c0_3, .slice A0_4 l0_4.length c0_4], .int .i64 0, .int .i64 1000, .int .i64 7] rfl z0_ ?_; (with_reducible refine (impl_depthOf.calls k a0_0 _ _ l0_1 _ _ l0_2 _ _ l0_3 _ _ l0_4 0 1000 7 t374 _ ?side1 ?side2 ?side3 ?side4 ?side5 ?side6 ?side7 ?side8 A2.out).mono ?_); (case side1 => exact z94_); (case side2 => exact z117_); (case side3 => exact z97_); (case side4 => exact HC0_2.out); (case side5 => exact z98_); (case side6 => exact HC0_3.out); (case side7 => exact z96_); (case side8 => exact z122_); rintro e w5 ⟨rfl, hb⟩; refine ⟨_, rfl, ?_⟩; replace HB := hb_ hb; (try clear hb); (try clear hb2); (try clear hk); (try clear hi)))
 go_ret
 exact ⟨z2_, cb_⟩

/-! ### impl_TreeOk: function 21 -/
def impl_TreeOk.f (k : Nat) (a0_0 : Bool) (l0_1 : List (S92)) (l0_2 : List Int) (l0_3 : List (S34)) (l0_4 : List (S72)) : Option (Bool) := (impl_TreeDepth.f k a0_0 l0_1 l0_2 l0_3 l0_4).bind fun t376 => (some (decide (t376 > 0)))
theorem impl_TreeOk.mono : ∀ a0 a1 a2 a3 a4 k, LeO (impl_TreeOk.f k a0 a1 a2 a3 a4) (impl_TreeOk.f (k + 1) a0 a1 a2 a3 a4) := by
 intro a0 a1 a2 a3 a4 k
 unfold impl_TreeOk.f
 have m0 := @impl_TreeDepth.mono
 exact zm_
set_option maxHeartbeats 8000000 in
set_option maxRecDepth 100000 in
theorem impl_TreeOk.calls (k : Nat) (a0_0 : Bool) (A0_1 : Option Addr) (c0_1 : Nat) (l0_1 : List (S92)) (A0_2 : Option Addr) (c0_2 : Nat) (l0_2 : List Int) (A0_3 : Option Addr) (c0_3 : Nat) (l0_3 : List (S34)) (A0_4 : Option Addr) (c0_4 : Nat) (l0_4 : List (S72)) (r : Bool) (w : World) (hr0_1 : Kd.C k92 w A0_1 l0_1.length l0_1) (hc0_1 : l0_1.length ≤ c0_1) (hr0_2 : Kd.C (Kd.int .i64) w A0_2 l0_2.length l0_2) (hc0_2 : l0_2.length ≤ c0_2) (hr0_3 : Kd.C k34 w A0_3 l0_3.length l0_3) (hc0_3 : l0_3.length ≤ c0_3) (hr0_4 : Kd.C k72 w A0_4 l0_4.length l0_4) (hc0_4 : l0_4.length ≤ c0_4) (h : impl_TreeOk.f k a0_0 l0_1 l0_2 l0_3 l0_4 = some r) :
  Calls Try.prog 21 #[.agg #[.bool a0_0, .slice A0_1 l0_1.length c0_1, .slice A0_2 l0_2.length c0_2, .slice A0_3 l0_3.length c0_3, .slice A0_4 l0_4.length c0_4]] w fun e w' => e = .returned (.bool r) ∧ Below w.heap.size w w' := by
 have hu34 := Try.underlying34
 have HR0_1 := q_ hr0_1
 have HC0_1 := q_ hc0_1
 clear hr0_1 hc0_1
 have HR0_2 := q_ hr0_2
 have HC0_2 := q_ hc0_2
 clear hr0_2 hc0_2
 have HR0_3 := q_ hr0_3
 have HC0_3 := q_ hc0_3
 clear hr0_3 hc0_3
 have HR0_4 := q_ hr0_4
 have HC0_4 := q_ hc0_4
 clear hr0_4 hc0_4
 have HB := q_ (Below.refl w.heap.size w)
 have H := h; clear h
 unfold impl_TreeOk.f at H
 replace H := bi_ H; obtain ⟨t376, A2, H⟩ := H
 obtain rfl := si_ H
 go_enter Try.func21, Try.ntmps21
 go_wp2_with (first | ((with_reducible refine gate_dst (N := 1) rfl ?_); refine box_event ?hg (N := 1) ?hd (cs := #[.bool a0_0, .slice A0_1 l0_1.length c0_1, .slice A0_2 l0_2.length c0_2, .slice A0_3 l0_3.length c0_3, .slice A0_4 l0_4.length c0_4]) (t := 34) ?hr ?_; (case hd => rfl); (case hg => rfl); (case hr => exact z95_); intro gb375 hg w3 hbox hb; have BK375 := q_ (hbox); have GW375 := ge_ hg; have GE375 := ge_ hg; replace HB := hb_ hb; clear hb hbox hg; obtain ⟨hz_, hz_, hz_, hz_, hz_, hz_, hz_, hz_, hz_, hz_⟩ := cs5_ BK375.out) | ((with_reducible refine gate_callee (f := 18) rfl ?_); refine goesL_ (some 4) rfl rfl Try.func18 (by kernel_rfl) rfl #[.agg #[.bool a0_0, .slice A0_1 l0_1.length c0_1, .slice A0_2 l0_2.length c0_2, .slice A0_3 l0_3.length c0_3, .slice A0_4 l0_4.length c0_4]] rfl z0_ ?_; (with_reducible refine (impl_TreeDepth.calls k a0_0 _ _ l0_1 _ _ l0_2 _ _ l0_3 _ _ l0_4 t376 _ ?side1 ?side2 ?side3 ?side4 ?side5 ?side6 ?side7 ?side8 A2.out).mono ?_); (case side1 => exact z94_); (case side2 => exact z117_); (case side3 => exact z97_); (case side4 => exact HC0_2.out); (case side5 => exact z98_); (case side6 => exact HC0_3.out); (case side7 => exact z96_); (case side8 => exact z122_); rintro e w5 ⟨rfl, hb⟩; refine ⟨_, rfl, ?_⟩; replace HB := hb_ hb; (try clear hb); (try clear hb2); (try clear hk); (try clear hi)))
 go_ret
 exact ⟨z2_, cb_⟩

/-! ### slices_Clone_Pair: function 113 -/
def slices_Clone_Pair.f (l0 : List (S92)) : Option (List (S92)) := if l0.length < 8796093022208 then some l0 else none
set_option maxHeartbeats 8000000 in
set_option maxRecDepth 100000 in
theorem slices_Clone_Pair.calls (A0 : Option Addr) (c0 : Nat) (l0 : List (S92)) (r : List (S92)) (w : World) (hr0 : Kd.C k92 w A0 l0.length l0) (hc0 : l0.length ≤ c0) (h : slices_Clone_Pair.f l0 = some r) :
  Calls Try.prog 113 #[.slice A0 l0.length c0] w fun e w' => ∃ v0_ : Value, e = .returned (v0_) ∧ Kd.R k92 92 w' w.heap.size (fun _ => True) v0_ r ∧ Below w.heap.size w w' := by
 unfold slices_Clone_Pair.f at h
 by_cases hlim : l0.length < 8796093022208
 ·rw [if_pos hlim] at h
  obtain rfl := Option.some.inj h
  rcases A0 with _ | ad
  ·have h0 : l0 = [] := by
    rcases Nat.eq_zero_or_pos l0.length with h0 | h0
    ·exact List.eq_nil_of_length_eq_zero h0
    ·obtain ⟨ad, e, _⟩ := hr0.2.2 h0
     cases e
   subst h0
   have hn := fun W : World => Lib.run_eql_slice_nil (P := Try.prog) W 30 92 none 0 c0 0 0 Try.underlying30
   simp only [Option.isNone_none] at hn
   clear hr0 hc0 h hlim
   go_enter Try.func113, Try.ntmps113
   go_wp2
   go_ret
   exact ⟨_, rfl, Kd.R_nil _ _ _ _ _, Below.refl _ _⟩
  ·have hn := fun W : World => Lib.run_eql_slice_nil (P := Try.prog) W 30 92 (some ad) l0.length c0 0 0 Try.underlying30
   simp only [Option.isNone_some] at hn
   have HR0 := q_ hr0
   have HLM := q_ hlim
   have HB := q_ (Below.refl w.heap.size w)
   clear hr0 hc0 h hlim
   go_enter Try.func113, Try.ntmps113
   go_wp2_with (first | ((with_reducible refine gate_dst (N := 5) rfl ?_); refine Kd.R_lit k92 _ 92 ?hg (N := 5) ?hd (xs := ([] : List (S92))) (inner := []) (ok := fun _ => True) (okp := fun _ => True) ?hr ?hp (fun _ hk => hk) trivial (Below.refl _ _) (Nat.le_refl _) (by simp) ?_; (case hd => rfl); (case hg => rfl); (case hr => exact z95_); (case hp => exact z128_); intro v1 w6 ho7 hb hg_ hnew_; clear hg_ hnew_; have n0_ := q_ (Kd.R_lower ho7 (below_size cb_)); have n2_ := q_ (below_step cb_ hb); clear HB; have HO1 := n0_; have HB := n2_; clear n0_ n2_; clear hb ho7) | ((with_reducible refine gate_builtin (b := .append) (xs := #[.tmp 5, .tmp 6]) rfl ?_); at_builtin; refine Kd.R_append_rows k92 (w0 := w) w.heap.size rfl (.tmp 5) (.tmp 6) 30 92 (.agg #[(.int .i64 0), (.int .i64 0)]) 16 rfl Try.underlying30 info92 rfl (by decide) (by omega) v1 [] l0 _ _ _ (fun _ => True) (fun _ => False) rfl rfl ?aO ?aR (fun _ _ h => h) (fun _ h => h.elim) ?aF ?aB ?aS ?aL ?_; (case aR => exact z99_); (case aB => exact cb_); (case aF => exact z127_); (case aO => exact (by (with_reducible repeat (first | apply Kd.R_alloc | apply Kd.R_drewN | apply Kd.R_drew)); exact HO1.out)); (case aS => exact z125_); (case aL => have := HLM.out; simp only [List.length_nil]; omega); intro v2 w7 ho hb hg hat; rw [List.nil_append] at ho; have HO2 := q_ ho; have n1_ := q_ hb; clear HB HO1; have HB := n1_; clear n1_; clear ho hb hg hat))
   go_ret
   exact ⟨_, rfl, by (with_reducible repeat (first | apply Kd.R_alloc | apply Kd.R_drewN | apply Kd.R_drew)); exact HO2.out, cb_⟩
 ·rw [if_neg hlim] at h
  cases h

/-! ### impl_changed_f1: function 133 -/
def impl_changed_f1.f (a0_0 : Int) (a0_1 : Int) (a1 : Int) : Option (Int) := some (wrap64 (a0_0 - a1))
set_option maxHeartbeats 8000000 in
set_option maxRecDepth 100000 in
theorem impl_changed_f1.calls (a0_0 : Int) (a0_1 : Int) (a1 : Int) (r : Int) (w : World) (h : impl_changed_f1.f a0_0 a0_1 a1 = some r) :
  Calls Try.prog 133 #[.agg #[.int .i64 a0_0, .int .i64 a0_1], .int .i64 a1] w fun e w' => e = .returned (.int .i64 r) ∧ Below w.heap.size w w' := by
 have hu92 := Try.underlying92
 have HB := q_ (Below.refl w.heap.size w)
 have H := h; clear h
 unfold impl_changed_f1.f at H
 obtain rfl := si_ H
 go_enter Try.func133, Try.ntmps133
 go_wp2_with (first | ((with_reducible refine gate_dst (N := 2) rfl ?_); refine box_event ?hg (N := 2) ?hd (cs := #[.int .i64 a0_0, .int .i64 a0_1]) (t := 92) ?hr ?_; (case hd => rfl); (case hg => rfl); (case hr => exact z95_); intro gb377 hg w3 hbox hb; have BK377 := q_ (hbox); have GW377 := ge_ hg; have GE377 := ge_ hg; replace HB := hb_ hb; clear hb hbox hg; obtain ⟨hz_, hz_, hz_, hz_⟩ := cs2_ BK377.out))
 go_ret
 exact ⟨z2_, cb_⟩

/-! ### slices_BinarySearchFunc_Pair_133: function 132 -/
def slices_BinarySearchFunc_Pair_133.l0 : Nat → List (S92) → Int → Int → Int → Int → Option (Int × Bool)
 | 0, _, _, _, _, _ => none
 | k + 1, x0, x1, x8, x9, x10 => if x9 < x10 then (if 0 ≤ (wrap64 ((IntKind.u64.wrap (wrap64 (x9 + x10))) / 2)) then (if (wrap64 ((IntKind.u64.wrap (wrap64 (x9 + x10))) / 2)) < (x0.length : Int) then ((impl_changed_f1.f ((rd_T92 x0 (wrap64 ((IntKind.u64.wrap (wrap64 (x9 + x10))) / 2))).f0) ((rd_T92 x0 (wrap64 ((IntKind.u64.wrap (wrap64 (x9 + x10))) / 2))).f1) x1).bind fun t379 => (if t379 < 0 then (slices_BinarySearchFunc_Pair_133.l0 k x0 x1 x8 (wrap64 ((wrap64 ((IntKind.u64.wrap (wrap64 (x9 + x10))) / 2)) + 1)) x10) else (slices_BinarySearchFunc_Pair_133.l0 k x0 x1 x8 x9 (wrap64 ((IntKind.u64.wrap (wrap64 (x9 + x10))) / 2))))) else (none)) else (none)) else (if x9 < x8 then (if 0 ≤ x9 then (if x9 < (x0.length : Int) then ((impl_changed_f1.f ((rd_T92 x0 x9).f0) ((rd_T92 x0 x9).f1) x1).bind fun t381 => (some (x9, (t381 == 0)))) else (none)) else (none)) else (some (x9, false)))
def slices_BinarySearchFunc_Pair_133.f (k : Nat) (l0 : List (S92)) (a1 : Int)  : Option (Int × Bool) := slices_BinarySearchFunc_Pair_133.l0 k l0 a1 (l0.length : Int) 0 (l0.length : Int)
theorem slices_BinarySearchFunc_Pair_133.mono_l : ∀ k, (∀ y0 y1 y2 y3 y4, LeO (slices_BinarySearchFunc_Pair_133.l0 k y0 y1 y2 y3 y4) (slices_BinarySearchFunc_Pair_133.l0 (k + 1) y0 y1 y2 y3 y4))
 | 0 => fun _ _ _ _ _ r h => by simp [slices_BinarySearchFunc_Pair_133.l0] at h
 | k + 1 => by
  have ih0 := slices_BinarySearchFunc_Pair_133.mono_l k
  ·intro y0 y1 y2 y3 y4
   unfold slices_BinarySearchFunc_Pair_133.l0
   exact zm_
theorem slices_BinarySearchFunc_Pair_133.mono : ∀ a0 a1 k, LeO (slices_BinarySearchFunc_Pair_133.f k a0 a1) (slices_BinarySearchFunc_Pair_133.f (k + 1) a0 a1) := by
 intro a0 a1 k
 have ih0 := slices_BinarySearchFunc_Pair_133.mono_l k
 unfold slices_BinarySearchFunc_Pair_133.f
 exact zm_
set_option maxHeartbeats 8000000 in
set_option maxRecDepth 100000 in
theorem slices_BinarySearchFunc_Pair_133.calls (k : Nat) (A0 : Option Addr) (c0 : Nat) (l0 : List (S92)) (a1 : Int)  (r1 : Int) (r2 : Bool) (w : World) (hr0 : Kd.C k92 w A0 l0.length l0) (hc0 : l0.length ≤ c0) (h : slices_BinarySearchFunc_Pair_133.f k l0 a1 = some (r1, r2)) :
  Calls Try.prog 132 #[.slice A0 l0.length c0, .int .i64 a1, .func (.func 133) #[] #[]] w fun e w' => e = .returned (.tuple #[.int .i64 r1, .bool r2]) ∧ Below w.heap.size w w' := by
 have hu92 := Try.underlying92
 have HR0 := q_ hr0
 have HC0 := q_ hc0
 clear hr0 hc0
 have HB := q_ (Below.refl w.heap.size w)
 have H := h; clear h
 unfold slices_BinarySearchFunc_Pair_133.f at H
 have H' := q_ H
 clear H
 go_enter Try.func132, Try.ntmps132
 go_wp2
 go_loopg [9, 10] k (fun kq v9 v10 w' => ∃ (x9_1 : Int) (x10_1 : Int), v9 = .int .i64 x9_1 ∧ v10 = .int .i64 x10_1 ∧ Aside0 (slices_BinarySearchFunc_Pair_133.l0 kq l0 a1 (l0.length : Int) x9_1 x10_1 = some (r1, r2)) ∧ Aside0 (kq ≤ k) ∧ Aside0 (Below w.heap.size w w'))
 case atStart => exact ⟨(0), ((l0.length : Int)), z4_, z4_, H', ⟨Nat.le_refl _⟩, ⟨cb_⟩⟩
 case round =>
  clear H'
  try clear c1
  try clear p2
  obtain ⟨x9_1, x10_1, rfl, rfl, HA, HK1, HB⟩ := hrel
  obtain ⟨k1, rfl, H⟩ := rn_ (k := gk) HA (by rintro rfl; simp only [slices_BinarySearchFunc_Pair_133.l0])
  clear HA
  simp only [slices_BinarySearchFunc_Pair_133.l0] at H
  replace H := kd_ H; rcases H with ⟨c4b0, H⟩ | ⟨c4b0, H⟩
  ·obtain ⟨ji5, hji5⟩ : ∃ j_ : Int, (wrap64 ((IntKind.u64.wrap (wrap64 (x9_1 + x10_1))) / 2)) = j_ := ⟨_, rfl⟩
   replace H : (if 0 ≤ (ji5) then (if (ji5) < (l0.length : Int) then ((impl_changed_f1.f ((rd_T92 l0 (ji5)).f0) ((rd_T92 l0 (ji5)).f1) a1).bind fun t379 => (if t379 < 0 then (slices_BinarySearchFunc_Pair_133.l0 k1 l0 a1 (l0.length : Int) (wrap64 ((ji5) + 1)) x10_1) else (slices_BinarySearchFunc_Pair_133.l0 k1 l0 a1 (l0.length : Int) x9_1 ji5))) else (none)) else (none)) = some (r1, r2) := by first | (rw [hji5] at H; exact H) | (simp only [hji5] at H ⊢; exact H)
   have hji5w : (IntKind.i64.wrap ((IntKind.u64.wrap (wrap64 (x9_1 + x10_1))) / 2)) = ji5 := (i64_w _).trans hji5
   replace H := kdn_ H; obtain ⟨c6b0, H⟩ := H
   replace H := kdn_ H; obtain ⟨c7b0, H⟩ := H
   replace H := bi_ H; obtain ⟨t379, A8, H⟩ := H
   have HC9 := q_ H
   clear H
   have p378 : 0 ≤ ((ji5) : Int) := of_decide_eq_true z1_
   have q378 : (ji5) < (l0.length : Int) := of_decide_eq_true z1_
   obtain ⟨ad378, e378, hx378_0, hx378_1⟩ := at_T92 HR0.out (ji5) p378 q378
   cases e378
   replace hx378_0 := up_ HB hx378_0
   replace hx378_1 := up_ HB hx378_1
   replace p378 := eq_true p378
   replace q378 := eq_true q378
   go_upto_if 31 with (first | (go_at_call 133; refine calls_of_args (args' := #[.agg #[.int .i64 ((rd_T92 l0 (ji5)).f0), .int .i64 ((rd_T92 l0 (ji5)).f1)], .int .i64 a1]) (by first | rfl | rfl) ?_; (with_reducible refine (impl_changed_f1.calls ((rd_T92 l0 (ji5)).f0) ((rd_T92 l0 (ji5)).f1) a1 t379 _ A8.out).mono ?_); rintro e w10 ⟨rfl, hb⟩; replace HB := hb_ hb; (try clear hb); (try clear hb2); (try clear hk); (try clear hi)))
   (try simp only [Act.put, List.setIfInBounds_toArray, List.set_cons_zero, List.set_cons_succ])
   have H := HC9.out
   clear HC9
   replace H := kd_ H; rcases H with ⟨c11b0, H⟩ | ⟨c11b0, H⟩
   ·(first | rw [c11b0] | rw [c11b1] | (simp only [i64_w, i32_w]; first | rw [c11b0] | rw [c11b1]) | rw [c11b2] | skip)
    have H' := q_ H
    clear H
    go_wp2
    go_roundg k1
    case measure => have := HK1.out; omega
    case rel => exact ⟨(wrap64 ((ji5) + 1)), (x10_1), z81_, z4_, H', ⟨z25_⟩, ⟨cb_⟩⟩
   ·(first | rw [c11b0] | rw [c11b1] | (simp only [i64_w, i32_w]; first | rw [c11b0] | rw [c11b1]) | rw [c11b2] | skip)
    have H' := q_ H
    clear H
    go_wp2
    go_roundg k1
    case measure => have := HK1.out; omega
    case rel => exact ⟨(x9_1), (ji5), z4_, z81_, H', ⟨z25_⟩, ⟨cb_⟩⟩
  ·replace H := kd_ H; rcases H with ⟨c12b0, H⟩ | ⟨c12b0, H⟩
   ·replace H := kdn_ H; obtain ⟨c13b0, H⟩ := H
    replace H := kdn_ H; obtain ⟨c14b0, H⟩ := H
    replace H := bi_ H; obtain ⟨t381, A15, H⟩ := H
    obtain ⟨rfl, rfl⟩ := s2_ H
    have p380 : 0 ≤ (x9_1 : Int) := of_decide_eq_true z1_
    have q380 : x9_1 < (l0.length : Int) := of_decide_eq_true z1_
    obtain ⟨ad380, e380, hx380_0, hx380_1⟩ := at_T92 HR0.out x9_1 p380 q380
    cases e380
    replace hx380_0 := up_ HB hx380_0
    replace hx380_1 := up_ HB hx380_1
    replace p380 := eq_true p380
    replace q380 := eq_true q380
    go_wp2_with (first | (go_at_call 133; refine calls_of_args (args' := #[.agg #[.int .i64 ((rd_T92 l0 x9_1).f0), .int .i64 ((rd_T92 l0 x9_1).f1)], .int .i64 a1]) (by first | rfl | rfl) ?_; (with_reducible refine (impl_changed_f1.calls ((rd_T92 l0 x9_1).f0) ((rd_T92 l0 x9_1).f1) a1 t381 _ A15.out).mono ?_); rintro e w16 ⟨rfl, hb⟩; replace HB := hb_ hb; (try clear hb); (try clear hb2); (try clear hk); (try clear hi)))
    go_ret2
    exact ⟨z2_, cb_⟩
   ·obtain ⟨rfl, rfl⟩ := s2_ H
    go_wp2
    go_ret2
    exact ⟨z2_, cb_⟩

/-! ### slices_Delete_Pair: function 134 -/
def slices_Delete_Pair.f (l0 : List (S92)) (x1 x2 : Int) : Option (List (S92)) := if 0 ≤ x1 then if x1 < l0.length then if x2 = x1 + 1 then some (l0.eraseIdx x1.toNat) else none else none else none
set_option maxHeartbeats 8000000 in
set_option maxRecDepth 100000 in
theorem slices_Delete_Pair.calls (P0_ : Nat → Prop) (u9000_ : Value) (l0 : List (S92)) (x1 x2 : Int) (r : List (S92)) (w0 w : World) (hB : Below w0.heap.size w0 w) (ho0 : Kd.R k92 92 w w0.heap.size P0_ u9000_ l0) (h : slices_Delete_Pair.f l0 x1 x2 = some r) :
  Calls Try.prog 134 #[u9000_, .int .i64 x1, .int .i64 x2] w fun e w' => ∃ v0_ : Value, e = .returned (v0_) ∧ Kd.R k92 92 w' w0.heap.size (fun k_ => (P0_ k_ ∨ w.heap.size ≤ k_)) v0_ r ∧ Below w0.heap.size w0 w' ∧ Kept w w' (fun k_ => P0_ k_) := by
 unfold slices_Delete_Pair.f at h
 by_cases h1 : 0 ≤ x1
 case neg => rw [if_neg h1] at h; cases h
 rw [if_pos h1] at h
 by_cases h2 : x1 < l0.length
 case neg => rw [if_neg h2] at h; cases h
 rw [if_pos h2] at h
 by_cases h3 : x2 = x1 + 1
 case neg => rw [if_neg h3] at h; cases h
 rw [if_pos h3] at h
 obtain rfl := Option.some.inj h
 subst h3
 obtain ⟨i, rfl⟩ := Int.eq_ofNat_of_zero_le h1
 have hi : i < l0.length := by omega
 obtain ⟨g, c, rfl, hg, hgs, -⟩ := Kd.R_form ho0 (by omega)
 obtain ⟨hn, hnc, -⟩ := Kd.R_reads' ho0
 have hcm : c ≤ 9223372036854775807 := by
  obtain ⟨_, _, _, _, hcm, _⟩ := Kd.R_lay ho0
  exact hcm
 obtain ⟨n, hln⟩ : ∃ n, n = l0.length := ⟨_, rfl⟩
 rw [← hln] at ho0 hn hnc hi ⊢
 have hs1 : ((i + 1 : Nat) : Int) = (i : Int) + 1 := by omega
 obtain ⟨i0, hi0, hz0, hsz0, hby0⟩ := info_parts info92
 obtain ⟨w1, hr1, hR1, hg1⟩ := Kd.R_delete_run (P := Try.prog) k92 (W := w.drew) w0.heap.size 30 30 92 i0 Try.underlying30 hi0 hsz0 (Kd.R_drew ho0) hi (A := if c = i + 1 then some ⟨g, 0, none⟩ else some ⟨g, (i + 1) * 2, none⟩) (by rw [Option.map_some, add_plain]; rfl) (c - (i + 1))
 have hcl : ∀ ty, (Builtin.clear_ #[30] ty #[.slice (some ⟨g, (n - 1) * 2, none⟩) (n - (n - 1)) (c - (n - 1))]).run Try.prog w1 = .ok (.tuple #[]) (w1.setCells g ((n - 1) * 2) (Builtin.zeroCells ((.agg #[(.int .i64 0), (.int .i64 0)]) : Value).cells (n - (n - 1))).toList) := by
  intro ty
  obtain ⟨cur, inner, hh, hcs, _⟩ := Kd.R_lay hR1
  refine clear_own_run Try.underlying30 Try.zeroValue92 hh ?_ (by omega) ?_
  ·exact zeroCells_one (by decide) (by decide)
  ·rw [hcs, Array.length_toList, size_zeroCells]
   show (n - 1) * 2 + (n - (n - 1)) * 2 ≤ c * 2
   omega
 have hR2 := Kd.R_spare hR1 (cs := (Builtin.zeroCells ((.agg #[(.int .i64 0), (.int .i64 0)]) : Value).cells (n - (n - 1))).toList) (o := (n - 1) * 2) (Nat.le_refl _) (by rw [Array.length_toList, size_zeroCells]; show (n - 1) * 2 + (n - (n - 1)) * 2 ≤ c * 2; omega)
 have hg2 := Kd.grown_setCells w1 g ((n - 1) * 2) (Builtin.zeroCells ((.agg #[(.int .i64 0), (.int .i64 0)]) : Value).cells (n - (n - 1))).toList
 obtain ⟨w2, hw2⟩ : ∃ w2, w2 = w1.setCells g ((n - 1) * 2) (Builtin.zeroCells ((.agg #[(.int .i64 0), (.int .i64 0)]) : Value).cells (n - (n - 1))).toList := ⟨_, rfl⟩
 rw [← hw2] at hcl hR2 hg2
 have hPg : P0_ g := ho0.1 g rfl
 have HF : Aside0 (Kd.R k92 92 w2 w0.heap.size (fun k_ => (P0_ k_ ∨ w.heap.size ≤ k_)) (.slice (some ⟨g, 0, none⟩) (n - 1) c) (l0.eraseIdx i) ∧ Below w0.heap.size w0 w2 ∧ Kept w w2 (fun k_ => P0_ k_)) :=
  ⟨Kd.R_mono hR2 (fun k_ hk => .inl hk), ((below_drew hB).grown hg1 hB.size (fun k_ e_ => by injection e_ with e_; omega)).grown hg2 (Nat.le_trans hB.size hg1.size) (fun k_ e_ => by injection e_ with e_; omega),
   Kept.of_grown hg2 (Kept.of_grown hg1 (Kept.drew (Kept.refl w _)) (fun k_ e_ => .inl z85_)) (fun k_ e_ => .inl z85_)⟩
 have HA := q_ hr1
 have HC := q_ hcl
 have f1 : (i : Int) ≤ (i : Int) + 1 := by omega
 have f2 : (i : Int) + 1 ≤ (n : Int) := by omega
 have f3 : (n : Int) ≤ (c : Int) := by omega
 have f4 : ¬ ((i : Int) = (i : Int) + 1) := by omega
 have f5 : (0 : Int) ≤ (i : Int) + 1 := by omega
 have f6 : (i : Int) ≤ (c : Int) := by omega
 have f7 : ((i : Int) + 1).toNat = i + 1 := by omega
 have f8 : i ≤ c := by omega
 have f9 : i + 1 ≤ n := by omega
 have f10 : n ≤ c := by omega
 clear hB hln hw2 hcl hR2 hg2 hr1 hR1 hg1 ho0 hi hnc hn h1 h2 hcm
 go_enter Try.func134, Try.ntmps134
 go_wp2_with fail
 go_region_law (refine step_append rfl _ _ 30 30 rfl z83_ z83_ HA.out ?_)
 go_wp2_with ((with_reducible refine gate_builtin (b := .clear) (xs := #[.tmp 31]) rfl ?_); refine gone_clear rfl _ 30 rfl rfl (HC.out _) ?_)
 all_goals go_ret
 all_goals first | exact ⟨_, rfl, HF.out⟩ | (have hc_ : c = i + 1 := (by assumption); subst hc_; exact ⟨_, rfl, HF.out⟩)

/-! ### impl_limited: function 135 -/
def impl_limited.f (a0 : Int) : Option (Int) := some (mx (-1000000000) (mn a0 1000000000))
set_option maxHeartbeats 8000000 in
set_option maxRecDepth 100000 in
theorem impl_limited.calls (a0 : Int) (r : Int) (w : World) (h : impl_limited.f a0 = some r) :
  Calls Try.prog 135 #[.int .i64 a0] w fun e w' => e = .returned (.int .i64 r) ∧ Below w.heap.size w w' := by
 have HB := q_ (Below.refl w.heap.size w)
 have H := h; clear h
 unfold impl_limited.f at H
 obtain ⟨ji2, hji2⟩ : ∃ j_ : Int, (mn a0 1000000000) = j_ := ⟨_, rfl⟩
 replace H : (some (mx (-1000000000) (ji2))) = some r := by first | (rw [hji2] at H; exact H) | (simp only [hji2] at H ⊢; exact H)
 (try (have hji2h : ji2 ≤ 1000000000 := by (rw [← hji2]; unfold mn; (repeat' split) <;> omega)))
 (try (have hji2g : ji2 ≤ 64 := by omega))
 have hji2_ : (if 1000000000 < a0 then 1000000000 else a0) = ji2 := hji2
 obtain ⟨ji3, hji3⟩ : ∃ j_ : Int, (mx (-1000000000) (ji2)) = j_ := ⟨_, rfl⟩
 replace H : (some ji3) = some r := by first | (rw [hji3] at H; exact H) | (simp only [hji3] at H ⊢; exact H)
 have hji3_ : (if (-1000000000) < (ji2) then (ji2) else (-1000000000)) = ji3 := hji3
 obtain rfl := si_ H
 go_enter Try.func135, Try.ntmps135
 go_wp2
 go_ret
 exact ⟨by first | rfl | (simp [errW_none, errW_some] <;> rfl) | (simp only [← hji2, ← hji3]; first | rfl | (simp [errW_none, errW_some] <;> rfl)) | (simp [*, errW_none, errW_some] <;> rfl), cb_⟩

/-! ### slices_Insert_Pair: function 136 -/
def slices_Insert_Pair.f (l0 : List (S92)) (x1 : Int) (l2 : List (S92)) : Option (List (S92)) := if 0 ≤ x1 then if x1 ≤ l0.length then if l2.length = 1 then if l0.length < 8796093022208 then some (l0.take x1.toNat ++ l2 ++ l0.drop x1.toNat) else none else none else none else none
set_option maxHeartbeats 8000000 in
set_option maxRecDepth 100000 in
theorem slices_Insert_Pair.calls (P0_ : Nat → Prop) (u9000_ : Value) (l0 : List (S92)) (x1 : Int) (A2 : Option Addr) (c2 : Nat) (l2 : List (S92)) (r : List (S92)) (w0 w : World) (hB : Below w0.heap.size w0 w) (ho0 : Kd.R k92 92 w w0.heap.size P0_ u9000_ l0) (hr2 : ∀ W_, Kept w W_ (fun k_ => P0_ k_) → Kd.C k92 W_ A2 l2.length l2) (hc2 : l2.length ≤ c2) (h : slices_Insert_Pair.f l0 x1 l2 = some r) :
  Calls Try.prog 136 #[u9000_, .int .i64 x1, .slice A2 l2.length c2] w fun e w' => ∃ v0_ : Value, e = .returned (v0_) ∧ Kd.R k92 92 w' w0.heap.size (fun k_ => (P0_ k_ ∨ w.heap.size ≤ k_)) v0_ r ∧ Below w0.heap.size w0 w' ∧ Kept w w' (fun k_ => P0_ k_) := by
 unfold slices_Insert_Pair.f at h
 by_cases h1 : 0 ≤ x1
 case neg => rw [if_neg h1] at h; cases h
 rw [if_pos h1] at h
 by_cases h2 : x1 ≤ l0.length
 case neg => rw [if_neg h2] at h; cases h
 rw [if_pos h2] at h
 by_cases h3 : l2.length = 1
 case neg => rw [if_neg h3] at h; cases h
 rw [if_pos h3] at h
 by_cases h4 : l0.length < 8796093022208
 case neg => rw [if_neg h4] at h; cases h
 rw [if_pos h4] at h
 obtain rfl := Option.some.inj h
 clear h
 obtain ⟨i, rfl⟩ := Int.eq_ofNat_of_zero_le h1
 have hi : i ≤ l0.length := by omega
 clear h1 h2
 have hr := hr2 w (Kept.refl w _)
 have HB := q_ hB
 have HS := q_ hB.size
 rcases Nat.lt_or_ge i l0.length with hlt | hge
 ·obtain ⟨g, c, rfl, hg, hgs, -⟩ := Kd.R_form ho0 (by omega)
  obtain ⟨hn, hnc, -⟩ := Kd.R_reads' ho0
  have hPg : P0_ g := ho0.1 g rfl
  have hcm : c ≤ 9223372036854775807 := by
   obtain ⟨_, _, _, _, hcm, _⟩ := Kd.R_lay ho0
   exact hcm
  obtain ⟨ad, rfl, -⟩ := hr.2.2 (by omega)
  obtain ⟨news, hnr, hnews⟩ := ReadsRow.inner_ hr
  have hnr' : Reps (k92.M w w0.heap.size (fun _ => False)) 2 l2 news := hnr
  have hnl : news.length = 2 := by rw [hnr.1, h3]; rfl
  have hadg : ad.block ≠ g := fun e_ => Kd.foot_neS hr2 (by omega) (by decide) (by rw [e_]; exact hPg)
  have hadl : ad.block < w.heap.size := Kd.C_lt hr (by omega) (by decide)
  have hone : ∀ u ∈ news, u.oneCell' = true := Kd.one_cell_of_reps (d := k92) hnr' (by decide)
  obtain ⟨n, hln⟩ : ∃ n, n = l0.length := ⟨_, rfl⟩
  rw [← hln] at ho0 hn hnc hlt h4 hi ⊢
  rw [h3] at hc2 ⊢
  obtain ⟨i0, hi0, hz0, hsz0, hby0⟩ := info_parts info92
  have f1 : (i : Int) ≤ (n : Int) := by omega
  have f2 : ¬ ((i : Int) = (n : Int)) := by omega
  have f3 : i ≤ c := by omega
  have f4 : ¬ (c = i) := by omega
  have f5 : i ≤ n := by omega
  have f6 : IntKind.i64.wrap ((n : Int) + 1) = (n : Int) + 1 := by rw [IntKind.wrap_i64]; omega
  have f7 : IntKind.i64.wrap ((i : Int) + 1) = (i : Int) + 1 := by rw [IntKind.wrap_i64]; omega
  have f8 : ((i : Int) + 1).toNat = i + 1 := by omega
  have f9 : ((n : Int) + 1).toNat = n + 1 := by omega
  have f10 : (0 : Int) ≤ (i : Int) + 1 := by omega
  have f11 : (0 : Int) ≤ (n : Int) + 1 := by omega
  clear hln
  have HO1 : Kd.R k92 92 w w0.heap.size (fun k_ => (P0_ k_ ∨ w.heap.size ≤ k_)) (.slice (some ⟨g, 0, none⟩) n c) l0 := Kd.R_mono ho0 (fun k_ hk => (.inl hk))
  rcases Nat.lt_or_ge c (n + 1) with hfull | hroom
  ·have g1 : (c : Int) < (n : Int) + 1 := by omega
   have g2 : wrap64 ((n : Int) + 1 - (i : Int)) = ((n + 1 - i : Nat) : Int) := by unfold wrap64; omega
   obtain ⟨c1, hc1⟩ : ∃ c1, c1 = grownCap w (n + 1) c 92 := ⟨_, rfl⟩
   have hge : n + 1 ≤ c1 := by rw [hc1]; exact grownCap_ge w (n + 1) c 92
   have hcm1 : c1 ≤ maxLen := by rw [hc1]; exact grownCap_le_maxLen w (n + 1) c 92 (by simp only [maxLen]; omega)
   obtain ⟨z, hz⟩ : ∃ z, z = (Builtin.zeroCells ((.agg #[(.int .i64 0), (.int .i64 0)]) : Value).cells (n + 1 - i)).toList ++ (Builtin.zeroCells ((.agg #[(.int .i64 0), (.int .i64 0)]) : Value).cells (c1 - (n + 1))).toList := ⟨_, rfl⟩
   have hzl : i * 2 + z.length = c1 * 2 := by
    rw [hz, List.length_append, Array.length_toList, Array.length_toList, size_zeroCells, size_zeroCells]
    show i * 2 + ((n + 1 - i) * 2 + (c1 - (n + 1)) * 2) = c1 * 2
    omega
   obtain ⟨olds, tail, q1, q2, q3, q4, q5, q6, ⟨cur1, q7, q8⟩, ⟨cur2, q9, q10⟩, hR, hG⟩ := Kd.R_put_anew (d := k92) (c1 := c1) (z := z) HO1 hi h3 (by decide) hnr' (fun _ h => h.elim) (.inr (Nat.le_refl _)) hB.size hzl hge hcm1
   obtain ⟨W1, hW1⟩ : ∃ W1, W1 = w.drew.alloc (.cells (olds ++ z).toArray 92) := ⟨_, rfl⟩
   obtain ⟨W2, hW2⟩ : ∃ W2, W2 = W1.setCells w.heap.size (i * 2) news := ⟨_, rfl⟩
   obtain ⟨W3, hW3⟩ : ∃ W3, W3 = W2.drew.setCells w.heap.size ((i + 1) * 2) tail := ⟨_, rfl⟩
   rw [← hW1] at q7 q9
   replace q9 : W2.heap[w.heap.size]? = some (.cells cur2 92 (0, 0)) := by rw [hW2]; exact q9
   replace hR : Kd.R k92 92 W3 w0.heap.size (fun k_ => (P0_ k_ ∨ w.heap.size ≤ k_)) (.slice (some ⟨w.heap.size, 0, none⟩) (n + 1) c1) (l0.take i ++ l2 ++ l0.drop i) := by rw [hW3, hW2, hW1]; exact hR
   replace hG : w.grownBy W3 none := by rw [hW3, hW2, hW1]; exact hG
   have hb1 : Below w.heap.size w W1 := by rw [hW1]; exact below_alloc (below_drew (Below.refl _ _)) _
   have hb2 : Below w.heap.size w W2 := by rw [hW2]; exact hb1.grown (Kd.grown_setCells W1 w.heap.size (i * 2) news) hb1.size (fun k_ e_ => by injection e_ with e_; omega)
   have HA : Aside0 ((Builtin.append_ #[30, 3] 30 #[.slice (some ⟨g, 0, none⟩) i c, .int .i64 (wrap64 ((n : Int) + 1 - (i : Int)))]).run Try.prog w = .ok (.slice (some ⟨w.heap.size, 0, none⟩) (n + 1) c1) W1) := by
    have e_ : i + (n + 1 - i) = n + 1 := by omega
    have h_ := run_append_zeros_anew (P := Try.prog) w (ty := 30) Try.underlying30 Try.underlying3 hi0 hz0 (by rw [hsz0]; decide) (by rw [hby0]; decide) (A := some ⟨g, 0, none⟩) (n := i) (m := n + 1 - i) (c := c) (by omega) (by omega) (olds := olds) (run_firstCells_some w.drew _ i _ i c olds (by rw [hsz0]; exact q1) (fun j u hu => by rw [add_plain]; simpa using q2 j u hu)) .i64 (by rw [hby0, e_]; omega)
    rw [e_, ← hc1, ← hz, ← hW1] at h_
    rw [g2]
    exact ⟨h_⟩
   have HC1 : Aside0 (∀ ty, (Builtin.copy_ #[30, 30] ty #[.slice (some ⟨w.heap.size, i * 2, none⟩) (n + 1 - i) (c1 - i), .slice (some ad) 1 c2]).run Try.prog W1 = .ok (goInt (Nat.min 1 (n + 1 - i))) W2) := by
    refine ⟨fun ty => ?_⟩
    rw [hW2]
    refine copy_own_run Try.underlying30 hi0 q7 ?_ (fun j u hu => pw_cell_below hb1 (hnews j u hu)) ?_ hone
    ·rw [hsz0, hnl, show Nat.min 1 (n + 1 - i) = 1 from Nat.min_eq_left (by omega)]
    ·rw [hnl, q8]
     show i * 2 + 2 ≤ c1 * 2
     omega
   have HC2 : Aside0 (∀ ty, (Builtin.copy_ #[30, 30] ty #[.slice (some ⟨w.heap.size, (i + 1) * 2, none⟩) (n - i) (c1 - (i + 1)), .slice (some ⟨g, i * 2, none⟩) (n - i) (c - i)]).run Try.prog W2.drew = .ok (goInt (Nat.min (n - i) (n - i))) W3) := by
    refine ⟨fun ty => ?_⟩
    rw [hW3]
    refine copy_own_run (w := W2.drew) Try.underlying30 hi0 (cur := cur2) q9 ?_ (fun j u hu => ?_) ?_ q5
    ·rw [hsz0, q3, show Nat.min (n - i) (n - i) = n - i from Nat.min_self _]
     rfl
    ·rw [add_at]
     exact pw_cell_below (below_drew hb2) (q4 j u hu)
    ·rw [q3, q10]
     show (i + 1) * 2 + (n - i) * 2 ≤ c1 * 2
     omega
   have HF : Aside0 (Kd.R k92 92 W3 w0.heap.size (fun k_ => (P0_ k_ ∨ w.heap.size ≤ k_)) (.slice (some ⟨w.heap.size, 0, none⟩) (n + 1) c1) (l0.take i ++ l2 ++ l0.drop i) ∧ Below w0.heap.size w0 W3 ∧ Kept w W3 (fun k_ => P0_ k_)) :=
    ⟨hR, hB.grown hG hB.size (fun k_ e_ => by cases e_), Kept.of_grown hG (Kept.refl w _) (fun k_ e_ => by cases e_)⟩
   have g3 : i ≤ c1 := by omega
   have g4 : ¬ (c1 = i) := by omega
   have g5 : ¬ (c1 = i + 1) := by omega
   have g6 : (i : Int) + 1 ≤ (n : Int) + 1 := by omega
   have g7 : (n : Int) + 1 ≤ (c1 : Int) := by omega
   have g8 : i ≤ n + 1 := by omega
   have g9 : (i : Int) ≤ (n : Int) + 1 := by omega
   simp only [Int.toNat_natCast]
   clear g2 hR hG hb1 hb2 q1 q2 q3 q4 q5 q6 q7 q8 q9 q10 hW1 hW2 hW3 hz hzl hc1 hge hcm1 hr hr2 hnr hnr' hnews hnl hone hB ho0 HO1 hn hnc h4 hi0 hz0 hsz0 hby0 hfull hc2 hlt h3 hi hadl hadg hcm hPg
   go_enter Try.func136, Try.ntmps136
   go_wp2_with (first | ((with_reducible refine gate_builtin (b := .append) (xs := #[.tmp 34, .tmp 39]) rfl ?_); refine gone_append rfl (.tmp 34) (.tmp 39) 30 3 rfl rfl rfl HA.out ?_) | ((with_reducible refine gate_builtin (b := .copy) (xs := #[.tmp 43, .tmp 44]) rfl ?_); refine gone_copy rfl (.tmp 43) (.tmp 44) 30 30 rfl rfl rfl (HC1.out _) ?_))
   go_region_law (refine step_copy rfl _ _ 30 30 rfl z83_ z83_ (HC2.out _) ?_)
   go_wp2
   go_ret
   exact ⟨_, rfl, HF.out⟩
  ·have g1 : ¬ ((c : Int) < (n : Int) + 1) := by omega
   obtain ⟨tail, q3, q4, q5, ⟨cur0, q6, q7⟩, ⟨cur1, q8, q9⟩, hR, hG⟩ := Kd.R_put_in (d := k92) (W := w.drew) (Kd.R_drew HO1) hi h3 hroom (by decide) (okp := fun _ => False) (news := news) (hnr'.imp_ (fun _ _ h => h)) (fun _ h => h.elim)
   obtain ⟨W1, hW1⟩ : ∃ W1, W1 = w.drew.setCells g ((i + 1) * 2) tail := ⟨_, rfl⟩
   obtain ⟨W2, hW2⟩ : ∃ W2, W2 = W1.setCells g (i * 2) news := ⟨_, rfl⟩
   replace q8 : W1.heap[g]? = some (.cells cur1 92 (0, 0)) := by rw [hW1]; exact q8
   replace hR : Kd.R k92 92 W2 w0.heap.size (fun k_ => (P0_ k_ ∨ w.heap.size ≤ k_)) (.slice (some ⟨g, 0, none⟩) (n + 1) c) (l0.take i ++ l2 ++ l0.drop i) := by rw [hW2, hW1]; exact hR
   replace hG : w.grownBy W2 (some g) := by rw [hW2, hW1]; exact ⟨hG.os, hG.tape, hG.output, hG.size, hG.block⟩
   have hu : ∃ u, w.cell? ad = some u := ⟨news[0], by have := hnews 0 news[0] (List.getElem?_eq_getElem (by omega)); rwa [Addr.add_zero'] at this⟩
   obtain ⟨u, hu⟩ := hu
   have hov : ∀ lb cb, (callFunc 142 #[.slice (some ad) 1 c2, .slice (some ⟨g, (i + 1) * 2, none⟩) lb cb]).run Try.prog w = .ok (.value (.bool false)) w := fun lb cb => by
    rw [run_callFunc_extern Try.func142 (by kernel_rfl) (by kernel_rfl) (by kernel_rfl) (e := Extern.SlicesOverlaps.overlaps #[30, 30] #[4]) (by kernel_rfl),
     overlaps_own_run (P := Try.prog) (w := w) (tS := 30) (tR := 4) Try.underlying30 (size := 2) (by intro w; simp [sizeOf, typeInfo, hi0, hsz0]) (a := ad) (b := ⟨g, (i + 1) * 2, none⟩) hadg q6 (by rw [q7]; show 0 < c * 2; omega) hu]
    rfl
   have HC1 : Aside0 (∀ ty, (Builtin.copy_ #[30, 30] ty #[.slice (some ⟨g, (i + 1) * 2, none⟩) (n - i) (c - (i + 1)), .slice (some ⟨g, i * 2, none⟩) (n + 1 - i) (c - i)]).run Try.prog w.drew = .ok (goInt (Nat.min (n + 1 - i) (n - i))) W1) := by
    refine ⟨fun ty => ?_⟩
    rw [hW1]
    refine copy_own_run (w := w.drew) Try.underlying30 hi0 (cur := cur0) q6 ?_ (fun j u hu => ?_) ?_ q5
    ·rw [hsz0, q3, show Nat.min (n + 1 - i) (n - i) = n - i from Nat.min_eq_right (by omega)]
     rfl
    ·rw [add_at]
     exact q4 j u hu
    ·rw [q3, q7]
     show (i + 1) * 2 + (n - i) * 2 ≤ c * 2
     omega
   have HC2 : Aside0 (∀ ty, (Builtin.copy_ #[30, 30] ty #[.slice (some ⟨g, i * 2, none⟩) (n + 1 - i) (c - i), .slice (some ad) 1 c2]).run Try.prog W1 = .ok (goInt (Nat.min 1 (n + 1 - i))) W2) := by
    refine ⟨fun ty => ?_⟩
    rw [hW2]
    refine copy_own_run Try.underlying30 hi0 q8 ?_ (fun j u hu => ?_) ?_ hone
    ·rw [hsz0, hnl, show Nat.min 1 (n + 1 - i) = 1 from Nat.min_eq_left (by omega)]
    ·have h_ := hnews j u hu
     rw [hW1]
     rw [← h_]
     exact World.cell?_of_block (w := w) (by rw [add_block]; exact setCells_far tail ((i + 1) * 2) (w := w.drew) ad.block hadg)
    ·rw [hnl, q9]
     show i * 2 + 2 ≤ c * 2
     omega
   have HF : Aside0 (Kd.R k92 92 W2 w0.heap.size (fun k_ => (P0_ k_ ∨ w.heap.size ≤ k_)) (.slice (some ⟨g, 0, none⟩) (n + 1) c) (l0.take i ++ l2 ++ l0.drop i) ∧ Below w0.heap.size w0 W2 ∧ Kept w W2 (fun k_ => P0_ k_)) :=
    ⟨hR, hB.grown hG hB.size (fun k_ e_ => by injection e_ with e_; omega), Kept.of_grown hG (Kept.refl w _) (fun k_ e_ => .inl z85_)⟩
   have g4 : ¬ (c = i + 1) := by omega
   have g6 : (i : Int) + 1 ≤ (n : Int) + 1 := by omega
   have g7 : (n : Int) + 1 ≤ (c : Int) := by omega
   have g8 : i ≤ n + 1 := by omega
   have g9 : (i : Int) ≤ (n : Int) + 1 := by omega
   simp only [Int.toNat_natCast]
   clear hR hG q3 q4 q5 q6 q7 q8 q9 hW1 hW2 hr hr2 hnr hnr' hnews hnl hone hB ho0 HO1 hn hnc h4 hi0 hz0 hsz0 hby0 hroom hc2 hlt h3 hi hadl hadg hcm hPg hu
   go_enter Try.func136, Try.ntmps136
   go_wp2_with (first | (simp only [hov]) | ((with_reducible refine gate_builtin (b := .copy) (xs := #[.tmp 80, .tmp 81]) rfl ?_); refine gone_copy rfl (.tmp 80) (.tmp 81) 30 30 rfl rfl rfl (HC2.out _) ?_))
   go_region_law (refine step_copy rfl _ _ 30 30 rfl z83_ z83_ (HC1.out _) ?_)
   go_wp2_with ((with_reducible refine gate_builtin (b := .copy) (xs := #[.tmp 80, .tmp 81]) rfl ?_); refine gone_copy rfl (.tmp 80) (.tmp 81) 30 30 rfl rfl rfl (HC2.out _) ?_)
   go_ret
   exact ⟨_, rfl, HF.out⟩
 ·have hin : i = l0.length := by omega
  have HO := q_ (show Kd.R k92 92 w w0.heap.size (fun k_ => (P0_ k_ ∨ w.heap.size ≤ k_)) u9000_ l0 from Kd.R_mono ho0 (fun k_ hk => (.inl hk)))
  have HP := q_ ho0.1
  have HC := q_ hr
  have HL := q_ (And.intro h4 h3)
  have HX : l0.take i ++ l2 ++ l0.drop i = l0 ++ l2 := by rw [hin, List.take_length, List.drop_length, List.append_nil]
  have HE := q_ HX
  obtain ⟨A, c, rfl⟩ := Kd.R_slice ho0
  subst hin
  simp only [Int.toNat_natCast]
  rw [HE.out]
  have e1 : ((l2.length : Int) == 0) = false := by rw [h3]; rfl
  clear hr hr2 hB ho0 hi hge h4 h3 HX
  go_enter Try.func136, Try.ntmps136
  rcases A with _ | a
  all_goals go_wp2_with ((with_reducible refine gate_builtin (b := .append) (xs := #[.tmp 23, .tmp 24]) rfl ?_); at_builtin; refine Kd.R_append_rows k92 (w0 := w0) w0.heap.size rfl (.tmp 23) (.tmp 24) 30 92 ((.agg #[(.int .i64 0), (.int .i64 0)])) 16 rfl Try.underlying30 info92 rfl (by decide) (by omega) _ l0 l2 A2 l2.length c2 (fun k_ => P0_ k_ ∨ w.heap.size ≤ k_) (fun _ => False) rfl rfl HO.out HC.out (fun _ _ h => h) (fun _ h => h.elim) (fun _ h => .inr h) HB.out HS.out (by have := HL.out.1; have := HL.out.2; omega) ?_; intro v1 w6 ho hb hg hat; have HF := q_ (And.intro ho (And.intro hb hg)); clear ho hb hg hat)
  all_goals go_ret
  all_goals exact ⟨_, rfl, HF.out.1, HF.out.2.1, Kept.of_grown HF.out.2.2 (Kept.refl w _) (fun k_ e_ => .inl (HP.out k_ e_))⟩

end Go.Proofs.Ytfnndcpaldkkoaa.PFnExactTreeRange
