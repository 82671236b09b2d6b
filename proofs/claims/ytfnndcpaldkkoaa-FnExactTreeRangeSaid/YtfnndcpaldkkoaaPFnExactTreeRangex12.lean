-- Written by a program of this session, which goes by the kit's print. Not trusted: Lean checks it.
import Derived.Test.YtfnndcpaldkkoaaPFnExactTreeRangex0
import Derived.Test.YtfnndcpaldkkoaaPFnExactTreeRangex11
namespace Go.Proofs.Ytfnndcpaldkkoaa.PFnExactTreeRange
open Go.RowKit Go.Proofs.YtfnndcpaldkkoaaW.PrintWords Go.Proofs.YtfnndcpaldkkoaaW.PrintLast Go.Proofs.YtfnndcpaldkkoaaW.PrintMore
attribute [local go_sem] Instr.field asAgg max2_int min2_int max_two min_two max_three min_three max_four min_four   -- for this text's walks alone
set_option linter.unusedVariables false
set_option linter.unusedSimpArgs false

/-! ### spec_TreeRange: function 41 -/
def spec_TreeRange.l0 : Nat → Int → Int → List (S92) → List (S92) → Int → Option ((List (S92)))
 | 0, _, _, _, _, _ => none
 | k + 1, x1, x2, x7, x8, x9 => if x9 < (x8.length : Int) then (if 0 ≤ x9 then (if ((rd_T92 x8 x9).f0) ≥ x1 then (if ((rd_T92 x8 x9).f0) < x2 then (if x7.length < 8796093022208 then (spec_TreeRange.l0 k x1 x2 (x7 ++ [(⟨(rd_T92 x8 x9).f0, (rd_T92 x8 x9).f1⟩ : S92)]) x8 (wrap64 (x9 + 1))) else (none)) else (spec_TreeRange.l0 k x1 x2 x7 x8 (wrap64 (x9 + 1)))) else (spec_TreeRange.l0 k x1 x2 x7 x8 (wrap64 (x9 + 1)))) else (none)) else (some x7)
def spec_TreeRange.f (k : Nat) (a0_0 : Bool) (l0_1 : List (S92)) (l0_2 : List Int) (l0_3 : List (S34)) (l0_4 : List (S72)) (a1 : Int) (a2 : Int) : Option ((List (S92))) := (spec_TreeMap.f k a0_0 l0_1 l0_2 l0_3 l0_4).bind fun t327 => (spec_TreeRange.l0 k a1 a2 (([] : List (S92))) t327 0)
theorem spec_TreeRange.mono_l : ∀ k, (∀ y0 y1 y2 y3 y4, LeO (spec_TreeRange.l0 k y0 y1 y2 y3 y4) (spec_TreeRange.l0 (k + 1) y0 y1 y2 y3 y4))
 | 0 => fun _ _ _ _ _ r h => by simp [spec_TreeRange.l0] at h
 | k + 1 => by
  have ih0 := spec_TreeRange.mono_l k
  ·intro y0 y1 y2 y3 y4
   unfold spec_TreeRange.l0
   have m0 := @spec_TreeMap.mono
   exact zm_
theorem spec_TreeRange.mono : ∀ a0 a1 a2 a3 a4 a5 a6 k, LeO (spec_TreeRange.f k a0 a1 a2 a3 a4 a5 a6) (spec_TreeRange.f (k + 1) a0 a1 a2 a3 a4 a5 a6) := by
 intro a0 a1 a2 a3 a4 a5 a6 k
 have ih0 := spec_TreeRange.mono_l k
 unfold spec_TreeRange.f
 have m0 := @spec_TreeMap.mono
 exact zm_
set_option maxHeartbeats 8000000 in
set_option maxRecDepth 100000 in
theorem spec_TreeRange.calls (k : Nat) (a0_0 : Bool) (A0_1 : Option Addr) (c0_1 : Nat) (l0_1 : List (S92)) (A0_2 : Option Addr) (c0_2 : Nat) (l0_2 : List Int) (A0_3 : Option Addr) (c0_3 : Nat) (l0_3 : List (S34)) (A0_4 : Option Addr) (c0_4 : Nat) (l0_4 : List (S72)) (a1 : Int) (a2 : Int) (r : List (S92)) (w : World) (hr0_1 : Kd.C k92 w A0_1 l0_1.length l0_1) (hc0_1 : l0_1.length ≤ c0_1) (hr0_2 : Kd.C (Kd.int .i64) w A0_2 l0_2.length l0_2) (hc0_2 : l0_2.length ≤ c0_2) (hr0_3 : Kd.C k34 w A0_3 l0_3.length l0_3) (hc0_3 : l0_3.length ≤ c0_3) (hr0_4 : Kd.C k72 w A0_4 l0_4.length l0_4) (hc0_4 : l0_4.length ≤ c0_4) (h : spec_TreeRange.f k a0_0 l0_1 l0_2 l0_3 l0_4 a1 a2 = some r) :
  Calls Try.prog 41 #[.agg #[.bool a0_0, .slice A0_1 l0_1.length c0_1, .slice A0_2 l0_2.length c0_2, .slice A0_3 l0_3.length c0_3, .slice A0_4 l0_4.length c0_4], .int .i64 a1, .int .i64 a2] w fun e w' => ∃ v0_ : Value, e = .returned (v0_) ∧ Kd.R k92 92 w' w.heap.size (fun _ => True) v0_ r ∧ Below w.heap.size w w' := by
 have hu34 := Try.underlying34
 have hu92 := Try.underlying92
 have HR0_1 := q_ hr0_1
 have HC0_1 := q_ hc0_1
 clear hr0_1 hc0_1
 have HR0_2 := q_ hr0_2
 have HC0_2 := q_ hc0_2
 clear hr0_2 hc0_2
 have HR0_3 := q_ hr0_3
 have HC0_3 := q_ hc0_3
 clear hr0_3 hc0_3
 have HR0_4 := q_ hr0_4
 have HC0_4 := q_ hc0_4
 clear hr0_4 hc0_4
 have HB := q_ (Below.refl w.heap.size w)
 have H := h; clear h
 unfold spec_TreeRange.f at H
 obtain ⟨y324, hy_⟩ : ∃ y_ : List (S92), y_ = (([] : List (S92))) := ⟨_, rfl⟩
 replace H : ((spec_TreeMap.f k a0_0 l0_1 l0_2 l0_3 l0_4).bind fun t327 => (spec_TreeRange.l0 k a1 a2 y324 t327 0)) = some r := z3_
 have Ny324 := q_ hy_
 clear hy_
 replace H := bi_ H; obtain ⟨t327, A4, H⟩ := H
 have H' := q_ H
 clear H
 go_enter Try.func41, Try.ntmps41
 go_wp2_with (first | ((with_reducible refine gate_dst (N := 3) rfl ?_); refine box_event ?hg (N := 3) ?hd (cs := #[.bool a0_0, .slice A0_1 l0_1.length c0_1, .slice A0_2 l0_2.length c0_2, .slice A0_3 l0_3.length c0_3, .slice A0_4 l0_4.length c0_4]) (t := 34) ?hr ?_; (case hd => rfl); (case hg => rfl); (case hr => exact z95_); intro gb323 hg w5 hbox hb; have BK323 := q_ (hbox); have GW323 := ge_ hg; have GE323 := ge_ hg; replace HB := hb_ hb; clear hb hbox hg) | ((with_reducible refine gate_dst (N := 10) rfl ?_); refine Kd.R_lit k92 _ 92 ?hg (N := 10) ?hd (xs := ([] : List (S92))) (inner := []) (ok := fun _ => True) (okp := fun _ => True) ?hr ?hp (fun _ hk => hk) trivial (Below.refl _ _) (Nat.le_refl _) (by simp) ?_; (case hd => rfl); (case hg => rfl); (case hr => exact z95_); (case hp => exact z128_); intro v325 w6 ho7 hb hg_ hnew_; clear hg_ hnew_; (first | rw [← Ny324.out] at ho7 | (simp only [Int.reduceToNat] at ho7; rw [← Ny324.out] at ho7)); have HO326 := q_ (Kd.R_lower ho7 (below_size cb_)); replace BK323 := rb_ BK323 hb; replace HB := hb_ hb; clear hb ho7; obtain ⟨hz_, hz_, hz_, hz_, hz_, hz_, hz_, hz_, hz_, hz_⟩ := cs5_ BK323.out) | ((with_reducible refine gate_callee (f := 36) rfl ?_); refine goesL_ (some 12) rfl rfl Try.func36 (by kernel_rfl) rfl #[.agg #[.bool a0_0, .slice A0_1 l0_1.length c0_1, .slice A0_2 l0_2.length c0_2, .slice A0_3 l0_3.length c0_3, .slice A0_4 l0_4.length c0_4]] rfl z0_ ?_; (with_reducible refine (spec_TreeMap.calls k a0_0 _ _ l0_1 _ _ l0_2 _ _ l0_3 _ _ l0_4 t327 _ ?side1 ?side2 ?side3 ?side4 ?side5 ?side6 ?side7 ?side8 A4.out).mono ?_); (case side1 => exact z94_); (case side2 => exact z117_); (case side3 => exact z97_); (case side4 => exact HC0_2.out); (case side5 => exact z98_); (case side6 => exact HC0_3.out); (case side7 => exact z96_); (case side8 => exact z122_); rintro e w9 ⟨v328, rfl, ho0, hb⟩; refine ⟨_, rfl, ?_⟩; have HO329 := q_ (Kd.R_lower (Kd.R_new' ho0 (Kd.R_lt z71_)) (below_size cb_)); replace HO326 := q_ (Kd.R_elder' z71_ (Kd.R_base ho0) hb); replace HB := hb_ hb; (try clear hb); (try clear hb2); (try clear hk); (try clear hi); (try clear ho0)))
 go_loopg [7, 9] k (fun kq v7 v9 w' => ∃ (x7_1 : List (S92)) (x9_1 : Int), v9 = .int .i64 x9_1 ∧ Aside0 (spec_TreeRange.l0 kq a1 a2 x7_1 t327 x9_1 = some r) ∧ Aside0 (kq ≤ k) ∧ Aside0 (Kd.R k92 92 w' w.heap.size (fun k_ => some k_ ≠ (v328 : Value).ownBlock) v7 x7_1) ∧ Aside0 (Kd.R k92 92 w' w.heap.size (fun k_ => some k_ ≠ (v7 : Value).ownBlock) v328 t327) ∧ Aside0 (Below w.heap.size w w'))
 case atStart => exact ⟨(y324), (0), z4_, H', ⟨Nat.le_refl _⟩, ⟨by (with_reducible repeat (first | apply Kd.R_alloc | apply Kd.R_drewN | apply Kd.R_drew)); exact Kd.R_mono HO326.out (fun _ hk => hk.2)⟩, ⟨by (with_reducible repeat (first | apply Kd.R_alloc | apply Kd.R_drewN | apply Kd.R_drew)); exact Kd.R_mono HO329.out (fun _ hk => hk.2)⟩, ⟨cb_⟩⟩
 case round =>
  clear H'
  try clear p2
  try clear c3
  try clear c4
  repeat clear hz_
  obtain ⟨x7_1, x9_1, rfl, HA, HK1, HO_7, HO_8, HB⟩ := hrel
  obtain ⟨k1, rfl, H⟩ := rn_ (k := gk) HA (by rintro rfl; simp only [spec_TreeRange.l0])
  clear HA
  simp only [spec_TreeRange.l0] at H
  replace H := kd_ H; rcases H with ⟨c10b0, H⟩ | ⟨c10b0, H⟩
  ·replace H := kdn_ H; obtain ⟨c11b0, H⟩ := H
   by_cases c12 : ((rd_T92 t327 x9_1).f0) ≥ a1
   ·rw [if_pos c12] at H
    have c12b0 : decide (a1 ≤ ((rd_T92 t327 x9_1).f0)) = true := decide_eq_true c12
    clear c12
    replace H := kd_ H; rcases H with ⟨c13b0, H⟩ | ⟨c13b0, H⟩
    ·replace H := kln_ H; obtain ⟨LMc14, H⟩ := H
     obtain ⟨y333, hy_⟩ : ∃ y_ : List (S92), y_ = (x7_1 ++ [(⟨(rd_T92 t327 x9_1).f0, (rd_T92 t327 x9_1).f1⟩ : S92)]) := ⟨_, rfl⟩
     replace H : (spec_TreeRange.l0 k1 a1 a2 y333 t327 (wrap64 (x9_1 + 1))) = some r := z3_
     have Ny333 := q_ hy_
     clear hy_
     have H' := q_ H
     clear H
     obtain ⟨Ao15, co15, eo15⟩ := Kd.R_slice HO_8.out
     subst eo15
     have p330 : 0 ≤ (x9_1 : Int) := of_decide_eq_true z1_
     have q330 : x9_1 < (t327.length : Int) := of_decide_eq_true z1_
     obtain ⟨ad330, e330, hx330_0, hx330_1⟩ := at_T92 (Kd.R_reads' HO_8.out).2.2 x9_1 p330 q330
     cases e330
     replace p330 := eq_true p330
     replace q330 := eq_true q330
     have p331 : 0 ≤ (x9_1 : Int) := of_decide_eq_true z1_
     have q331 : x9_1 < (t327.length : Int) := of_decide_eq_true z1_
     obtain ⟨ad331, e331, hx331_0, hx331_1⟩ := at_T92 (Kd.R_reads' HO_8.out).2.2 x9_1 p331 q331
     obtain rfl : ad330 = ad331 := (by injection e331)
     replace p331 := eq_true p331
     replace q331 := eq_true q331
     have p332 : 0 ≤ (x9_1 : Int) := of_decide_eq_true z1_
     have q332 : x9_1 < (t327.length : Int) := of_decide_eq_true z1_
     obtain ⟨ad332, e332, hx332_0, hx332_1⟩ := at_T92 (Kd.R_reads' HO_8.out).2.2 x9_1 p332 q332
     obtain rfl : ad330 = ad332 := (by injection e332)
     replace p332 := eq_true p332
     replace q332 := eq_true q332
     go_wp2_with (first | ((with_reducible refine gate_builtin (b := .append) (xs := #[.tmp 35, .tmp 40]) rfl ?_); at_builtin; refine Kd.R_append k92 (w0 := w) w.heap.size rfl (.tmp 35) (.tmp 40) 30 92 (.agg #[(.int .i64 0), (.int .i64 0)]) 16 rfl Try.underlying30 info92 rfl (by decide) (by omega) u7 x7_1 (⟨(rd_T92 t327 x9_1).f0, (rd_T92 t327 x9_1).f1⟩ : S92) [.int .i64 ((rd_T92 t327 x9_1).f0), .int .i64 ((rd_T92 t327 x9_1).f1)] (fun k_ => some k_ ≠ (.slice (some ad330) t327.length co15 : Value).ownBlock) (fun _ => False) rfl rfl ?aP (fun _ hk => hk.elim) ?aF ?aO ?aB ?aS ?aL ?_; (case aP => exact k92_mkM _ _ _ (⟨(rd_T92 t327 x9_1).f0, (rd_T92 t327 x9_1).f1⟩ : S92)); (case aB => exact cb_); (case aF => exact (fun k_ hk => Kd.fresh' (Kd.R_lt z29_) k_ hk)); (case aO => exact z20_); (case aS => exact z125_); (case aL => have := LMc14.out; omega); intro v334 w16 ho hb hg hat; rw [← Ny333.out] at ho; replace HO_8 := q_ (Kd.R_after (ok := (fun _ => True)) (by (with_reducible repeat (first | apply Kd.R_alloc | apply Kd.R_drewN | apply Kd.R_drew)); exact Kd.R_mono HO_8.out (fun _ hk => ⟨trivial, hk⟩)) hg hat); replace HB := q_ (hb); have HO335 := q_ (ho); clear HO_7; clear ho hb hg hat))
     go_roundg k1
     case measure => have := HK1.out; omega
     case rel => exact ⟨(y333), (wrap64 (x9_1 + 1)), z4_, H', ⟨z25_⟩, ⟨by (with_reducible repeat (first | apply Kd.R_alloc | apply Kd.R_drewN | apply Kd.R_drew)); exact HO335.out⟩, ⟨by (with_reducible repeat (first | apply Kd.R_alloc | apply Kd.R_drewN | apply Kd.R_drew)); exact Kd.R_mono HO_8.out (fun _ hk => hk.2)⟩, ⟨cb_⟩⟩
    ·have H' := q_ H
     clear H
     obtain ⟨Ao17, co17, eo17⟩ := Kd.R_slice HO_8.out
     subst eo17
     have p330 : 0 ≤ (x9_1 : Int) := of_decide_eq_true z1_
     have q330 : x9_1 < (t327.length : Int) := of_decide_eq_true z1_
     obtain ⟨ad330, e330, hx330_0, hx330_1⟩ := at_T92 (Kd.R_reads' HO_8.out).2.2 x9_1 p330 q330
     cases e330
     replace p330 := eq_true p330
     replace q330 := eq_true q330
     have p331 : 0 ≤ (x9_1 : Int) := of_decide_eq_true z1_
     have q331 : x9_1 < (t327.length : Int) := of_decide_eq_true z1_
     obtain ⟨ad331, e331, hx331_0, hx331_1⟩ := at_T92 (Kd.R_reads' HO_8.out).2.2 x9_1 p331 q331
     obtain rfl : ad330 = ad331 := (by injection e331)
     replace p331 := eq_true p331
     replace q331 := eq_true q331
     go_wp2
     go_roundg k1
     case measure => have := HK1.out; omega
     case rel => exact ⟨(x7_1), (wrap64 (x9_1 + 1)), z4_, H', ⟨z25_⟩, ⟨z20_⟩, ⟨z29_⟩, ⟨cb_⟩⟩
   ·rw [if_neg c12] at H
    have c12b0 : decide (a1 ≤ ((rd_T92 t327 x9_1).f0)) = false := decide_eq_false c12
    clear c12
    have H' := q_ H
    clear H
    obtain ⟨Ao18, co18, eo18⟩ := Kd.R_slice HO_8.out
    subst eo18
    have p330 : 0 ≤ (x9_1 : Int) := of_decide_eq_true z1_
    have q330 : x9_1 < (t327.length : Int) := of_decide_eq_true z1_
    obtain ⟨ad330, e330, hx330_0, hx330_1⟩ := at_T92 (Kd.R_reads' HO_8.out).2.2 x9_1 p330 q330
    cases e330
    replace p330 := eq_true p330
    replace q330 := eq_true q330
    go_wp2
    go_roundg k1
    case measure => have := HK1.out; omega
    case rel => exact ⟨(x7_1), (wrap64 (x9_1 + 1)), z4_, H', ⟨z25_⟩, ⟨z20_⟩, ⟨z29_⟩, ⟨cb_⟩⟩
  ·obtain rfl := si_ H
   obtain ⟨Ao19, co19, eo19⟩ := Kd.R_slice HO_8.out
   subst eo19
   go_wp2
   go_ret
   exact ⟨_, z2_, z63_, cb_⟩

/-! ### impl_within: function 102 -/
def impl_within.f (a0 : Int) (a1 : Int) (a2 : Int) : Option (Bool) := if a0 ≥ a1 then (some (decide (a0 ≤ a2))) else (some false)
set_option maxHeartbeats 8000000 in
set_option maxRecDepth 100000 in
theorem impl_within.calls (a0 : Int) (a1 : Int) (a2 : Int) (r : Bool) (w : World) (h : impl_within.f a0 a1 a2 = some r) :
  Calls Try.prog 102 #[.int .i64 a0, .int .i64 a1, .int .i64 a2] w fun e w' => e = .returned (.bool r) ∧ Drawn0 w w' := by
 have H := h; clear h
 unfold impl_within.f at H
 by_cases c4 : a0 ≥ a1
 ·rw [if_pos c4] at H
  have c4b0 : decide (a1 ≤ a0) = true := decide_eq_true c4
  clear c4
  obtain rfl := si_ H
  go_enter Try.func102, Try.ntmps102
  go_wp2
  go_ret
  exact ⟨z4_, z9_⟩
 ·rw [if_neg c4] at H
  have c4b0 : decide (a1 ≤ a0) = false := decide_eq_false c4
  clear c4
  obtain rfl := si_ H
  go_enter Try.func102, Try.ntmps102
  go_wp2
  go_ret
  exact ⟨z4_, z9_⟩

/-! ### impl_isKey: function 93 -/
def impl_isKey.f (a0 : Int) : Option (Bool) := (impl_within.f a0 0 999).bind fun t336 => (some t336)
set_option maxHeartbeats 8000000 in
set_option maxRecDepth 100000 in
theorem impl_isKey.calls (a0 : Int) (r : Bool) (w : World) (h : impl_isKey.f a0 = some r) :
  Calls Try.prog 93 #[.int .i64 a0] w fun e w' => e = .returned (.bool r) ∧ Drawn0 w w' := by
 have H := h; clear h
 unfold impl_isKey.f at H
 replace H := bi_ H; obtain ⟨t336, A2, H⟩ := H
 obtain rfl := si_ H
 go_enter Try.func93, Try.ntmps93
 go_wp2_with (first | ((with_reducible refine gate_callee (f := 102) rfl ?_); refine goesL_ (some 4) rfl rfl Try.func102 (by kernel_rfl) rfl #[.int .i64 a0, .int .i64 0, .int .i64 999] rfl z0_ ?_; (with_reducible refine (impl_within.calls a0 0 999 t336 _ A2.out).mono ?_); rintro e w' ⟨rfl, ⟨nd, rfl⟩⟩; refine ⟨_, rfl, ?_⟩))
 go_ret
 exact ⟨z4_, z9_⟩

/-! ### impl_isNum: function 94 -/
def impl_isNum.f (a0 : Int) : Option (Bool) := (impl_within.f a0 (-1000000000) 1000000000).bind fun t337 => (some t337)
set_option maxHeartbeats 8000000 in
set_option maxRecDepth 100000 in
theorem impl_isNum.calls (a0 : Int) (r : Bool) (w : World) (h : impl_isNum.f a0 = some r) :
  Calls Try.prog 94 #[.int .i64 a0] w fun e w' => e = .returned (.bool r) ∧ Drawn0 w w' := by
 have H := h; clear h
 unfold impl_isNum.f at H
 replace H := bi_ H; obtain ⟨t337, A2, H⟩ := H
 obtain rfl := si_ H
 go_enter Try.func94, Try.ntmps94
 go_wp2_with (first | ((with_reducible refine gate_callee (f := 102) rfl ?_); refine goesL_ (some 4) rfl rfl Try.func102 (by kernel_rfl) rfl #[.int .i64 a0, .int .i64 (-1000000000), .int .i64 1000000000] rfl z0_ ?_; (with_reducible refine (impl_within.calls a0 (-1000000000) 1000000000 t337 _ A2.out).mono ?_); rintro e w' ⟨rfl, ⟨nd, rfl⟩⟩; refine ⟨_, rfl, ?_⟩))
 go_ret
 exact ⟨z4_, z9_⟩

/-! ### impl_MapOk: function 51 -/
def impl_MapOk.l0 : Nat → List (S92) → List (S92) → Int → Int → Option (Bool)
 | 0, _, _, _, _ => none
 | k + 1, x0, x5, x6, x7 => if x7 < x6 then (if 0 ≤ x7 then (if x7 < (x5.length : Int) then ((impl_isKey.f ((rd_T92 x5 x7).f0)).bind fun t340 => (if t340 = true then ((impl_isNum.f ((rd_T92 x5 x7).f1)).bind fun t341 => (if t341 = true then (if x7 > 0 then (if 0 ≤ (wrap64 (x7 - 1)) then (if (wrap64 (x7 - 1)) < (x0.length : Int) then (if ((rd_T92 x0 (wrap64 (x7 - 1))).f0) ≥ ((rd_T92 x5 x7).f0) then (some false) else (impl_MapOk.l0 k x0 x5 x6 (wrap64 (x7 + 1)))) else (none)) else (none)) else (impl_MapOk.l0 k x0 x5 x6 (wrap64 (x7 + 1)))) else (some false))) else (some false))) else (none)) else (none)) else (some true)
def impl_MapOk.f (k : Nat) (l0 : List (S92)) : Option (Bool) := impl_MapOk.l0 k l0 l0 (l0.length : Int) 0
theorem impl_MapOk.mono_l : ∀ k, (∀ y0 y1 y2 y3, LeO (impl_MapOk.l0 k y0 y1 y2 y3) (impl_MapOk.l0 (k + 1) y0 y1 y2 y3))
 | 0 => fun _ _ _ _ r h => by simp [impl_MapOk.l0] at h
 | k + 1 => by
  have ih0 := impl_MapOk.mono_l k
  ·intro y0 y1 y2 y3
   unfold impl_MapOk.l0
   exact zm_
theorem impl_MapOk.mono : ∀ a0 k, LeO (impl_MapOk.f k a0) (impl_MapOk.f (k + 1) a0) := by
 intro a0 k
 have ih0 := impl_MapOk.mono_l k
 unfold impl_MapOk.f
 exact zm_
set_option maxHeartbeats 8000000 in
set_option maxRecDepth 100000 in
theorem impl_MapOk.calls (k : Nat) (A0 : Option Addr) (c0 : Nat) (l0 : List (S92)) (r : Bool) (w : World) (hr0 : Kd.C k92 w A0 l0.length l0) (hc0 : l0.length ≤ c0) (h : impl_MapOk.f k l0 = some r) :
  Calls Try.prog 51 #[.slice A0 l0.length c0] w fun e w' => e = .returned (.bool r) ∧ Below w.heap.size w w' := by
 have hu92 := Try.underlying92
 have HR0 := q_ hr0
 have HC0 := q_ hc0
 clear hr0 hc0
 have HB := q_ (Below.refl w.heap.size w)
 have H := h; clear h
 unfold impl_MapOk.f at H
 have H' := q_ H
 clear H
 go_enter Try.func51, Try.ntmps51
 go_wp2
 repeat (go_quiet (fail); try go_wp2)
 go_loopg [7] k (fun kq v7 w' => ∃ (x7_1 : Int), v7 = .int .i64 x7_1 ∧ Aside0 (impl_MapOk.l0 kq l0 l0 (l0.length : Int) x7_1 = some r) ∧ Aside0 (kq ≤ k) ∧ Aside0 (Below w.heap.size w w'))
 case atStart => exact ⟨(0), z4_, H', ⟨Nat.le_refl _⟩, ⟨cb_⟩⟩
 case round =>
  clear H'
  obtain ⟨x7_1, rfl, HA, HK1, HB⟩ := hrel
  obtain ⟨k1, rfl, H⟩ := rn_ (k := gk) HA (by rintro rfl; simp only [impl_MapOk.l0])
  clear HA
  simp only [impl_MapOk.l0] at H
  replace H := kd_ H; rcases H with ⟨c2b0, H⟩ | ⟨c2b0, H⟩
  ·replace H := kdn_ H; obtain ⟨c3b0, H⟩ := H
   replace H := kdn_ H; obtain ⟨c4b0, H⟩ := H
   replace H := bi_ H; obtain ⟨t340, A5, H⟩ := H
   replace H := kb_ H; rcases H with ⟨rfl, H⟩ | ⟨rfl, H⟩
   ·replace H := bi_ H; obtain ⟨t341, A7, H⟩ := H
    replace H := kb_ H; rcases H with ⟨rfl, H⟩ | ⟨rfl, H⟩
    ·replace H := kg_ H; rcases H with ⟨c9b0, H⟩ | ⟨c9b0, H⟩
     ·obtain ⟨ji10, hji10⟩ : ∃ j_ : Int, (wrap64 (x7_1 - 1)) = j_ := ⟨_, rfl⟩
      replace H : (if 0 ≤ (ji10) then (if (ji10) < (l0.length : Int) then (if ((rd_T92 l0 (ji10)).f0) ≥ ((rd_T92 l0 x7_1).f0) then (some false) else (impl_MapOk.l0 k1 l0 l0 (l0.length : Int) (wrap64 (x7_1 + 1)))) else (none)) else (none)) = some r := by first | (rw [hji10] at H; exact H) | (simp only [hji10] at H ⊢; exact H)
      (try rw [hji10] at A5)
      (try rw [hji10] at A7)
      have hji10w : (IntKind.i64.wrap (x7_1 - 1)) = ji10 := (i64_w _).trans hji10
      replace H := kdn_ H; obtain ⟨c11b0, H⟩ := H
      replace H := kdn_ H; obtain ⟨c12b0, H⟩ := H
      by_cases c13 : ((rd_T92 l0 (ji10)).f0) ≥ ((rd_T92 l0 x7_1).f0)
      ·rw [if_pos c13] at H
       have c13b0 : decide (((rd_T92 l0 x7_1).f0) ≤ ((rd_T92 l0 (ji10)).f0)) = true := decide_eq_true c13
       clear c13
       obtain rfl := si_ H
       have p338 : 0 ≤ (x7_1 : Int) := of_decide_eq_true z1_
       have q338 : x7_1 < (l0.length : Int) := of_decide_eq_true z1_
       obtain ⟨ad338, e338, hx338_0, hx338_1⟩ := at_T92 HR0.out x7_1 p338 q338
       cases e338
       replace hx338_0 := up_ HB hx338_0
       replace hx338_1 := up_ HB hx338_1
       replace p338 := eq_true p338
       replace q338 := eq_true q338
       go_wp2_with (first | ((with_reducible refine gate_dst (N := 4) rfl ?_); refine box_event ?hg (N := 4) ?hd (cs := #[.int .i64 0, .int .i64 0]) (t := 92) ?hr ?_; (case hd => rfl); (case hg => rfl); (case hr => exact z95_); intro gb339 hg w14 hbox hb; have BK339 := q_ (hbox); have GW339 := ge_ hg; have GE339 := ge_ hg; replace HB := hb_ hb; clear hb hbox hg; obtain ⟨hz_, hz_, hz_, hz_⟩ := cs2_ BK339.out) | (go_at_call 93; (with_reducible refine (impl_isKey.calls ((rd_T92 l0 x7_1).f0) true _ A5.out).mono ?_); rintro e w' ⟨rfl, ⟨nd, rfl⟩⟩; (try first | exact ⟨rfl, _, World.drewN_drewN _ _ _⟩ | exact ⟨rfl, _, Eq.trans (World.drewN_drewN _ _ _) (congrArg (World.drewN _) (Nat.add_assoc _ _ _))⟩)) | (go_at_call 94; (with_reducible refine (impl_isNum.calls ((rd_T92 l0 x7_1).f1) true _ A7.out).mono ?_); rintro e w' ⟨rfl, ⟨nd, rfl⟩⟩; (try first | exact ⟨rfl, _, World.drewN_drewN _ _ _⟩ | exact ⟨rfl, _, Eq.trans (World.drewN_drewN _ _ _) (congrArg (World.drewN _) (Nat.add_assoc _ _ _))⟩); have p342 : 0 ≤ ((ji10) : Int) := of_decide_eq_true z1_; have q342 : (ji10) < (l0.length : Int) := of_decide_eq_true z1_; obtain ⟨ad342, e342, hx342_0, hx342_1⟩ := at_T92 HR0.out (ji10) p342 q342; obtain rfl : ad338 = ad342 := z88_; have hn342_0 : ad338.block ≠ gb339 := Nat.ne_of_lt (Nat.lt_of_lt_of_le (by have := World.block_lt_of_cell? _ _ hx342_0; first | rwa [add_block] at this | exact this) GW339.out); have hn342_1 : ad338.block ≠ gb339 := Nat.ne_of_lt (Nat.lt_of_lt_of_le (by have := World.block_lt_of_cell? _ _ hx342_0; first | rwa [add_block] at this | exact this) GW339.out); replace hx342_0 := up_ HB hx342_0; replace hx342_1 := up_ HB hx342_1; replace hx342_0 := (cell_far (p := ⟨gb339, 0, none⟩) z12_ (.int .i64 ((rd_T92 l0 x7_1).f0))).trans hx342_0; replace hx342_1 := (cell_far (p := ⟨gb339, 0, none⟩) z12_ (.int .i64 ((rd_T92 l0 x7_1).f0))).trans hx342_1; replace hx342_0 := (cell_far (p := ⟨gb339, 1, none⟩) z13_ (.int .i64 ((rd_T92 l0 x7_1).f1))).trans hx342_0; replace hx342_1 := (cell_far (p := ⟨gb339, 1, none⟩) z13_ (.int .i64 ((rd_T92 l0 x7_1).f1))).trans hx342_1; (try have hy342_0 := fun (n_ : Nat) => (show ((((w14.drewN n_).setCell ⟨gb339, 0, none⟩ (.int .i64 ((rd_T92 l0 x7_1).f0))).setCell ⟨gb339, 1, none⟩ (.int .i64 ((rd_T92 l0 x7_1).f1)))).cell? _ = some _ from hx342_0)); (try have hy342_1 := fun (n_ : Nat) => (show ((((w14.drewN n_).setCell ⟨gb339, 0, none⟩ (.int .i64 ((rd_T92 l0 x7_1).f0))).setCell ⟨gb339, 1, none⟩ (.int .i64 ((rd_T92 l0 x7_1).f1)))).cell? _ = some _ from hx342_1)); clear hn342_0; clear hn342_1; replace p342 := eq_true p342; replace q342 := eq_true q342))
       repeat (go_quiet (first | ((with_reducible refine gate_dst (N := 4) rfl ?_); refine box_event ?hg (N := 4) ?hd (cs := #[.int .i64 0, .int .i64 0]) (t := 92) ?hr ?_; (case hd => rfl); (case hg => rfl); (case hr => exact z95_); intro gb339 hg w14 hbox hb; have BK339 := q_ (hbox); have GW339 := ge_ hg; have GE339 := ge_ hg; replace HB := hb_ hb; clear hb hbox hg; obtain ⟨hz_, hz_, hz_, hz_⟩ := cs2_ BK339.out) | (go_at_call 93; (with_reducible refine (impl_isKey.calls ((rd_T92 l0 x7_1).f0) true _ A5.out).mono ?_); rintro e w' ⟨rfl, ⟨nd, rfl⟩⟩; (try first | exact ⟨rfl, _, World.drewN_drewN _ _ _⟩ | exact ⟨rfl, _, Eq.trans (World.drewN_drewN _ _ _) (congrArg (World.drewN _) (Nat.add_assoc _ _ _))⟩)) | (go_at_call 94; (with_reducible refine (impl_isNum.calls ((rd_T92 l0 x7_1).f1) true _ A7.out).mono ?_); rintro e w' ⟨rfl, ⟨nd, rfl⟩⟩; (try first | exact ⟨rfl, _, World.drewN_drewN _ _ _⟩ | exact ⟨rfl, _, Eq.trans (World.drewN_drewN _ _ _) (congrArg (World.drewN _) (Nat.add_assoc _ _ _))⟩); have p342 : 0 ≤ ((ji10) : Int) := of_decide_eq_true z1_; have q342 : (ji10) < (l0.length : Int) := of_decide_eq_true z1_; obtain ⟨ad342, e342, hx342_0, hx342_1⟩ := at_T92 HR0.out (ji10) p342 q342; obtain rfl : ad338 = ad342 := z88_; have hn342_0 : ad338.block ≠ gb339 := Nat.ne_of_lt (Nat.lt_of_lt_of_le (by have := World.block_lt_of_cell? _ _ hx342_0; first | rwa [add_block] at this | exact this) GW339.out); have hn342_1 : ad338.block ≠ gb339 := Nat.ne_of_lt (Nat.lt_of_lt_of_le (by have := World.block_lt_of_cell? _ _ hx342_0; first | rwa [add_block] at this | exact this) GW339.out); replace hx342_0 := up_ HB hx342_0; replace hx342_1 := up_ HB hx342_1; replace hx342_0 := (cell_far (p := ⟨gb339, 0, none⟩) z12_ (.int .i64 ((rd_T92 l0 x7_1).f0))).trans hx342_0; replace hx342_1 := (cell_far (p := ⟨gb339, 0, none⟩) z12_ (.int .i64 ((rd_T92 l0 x7_1).f0))).trans hx342_1; replace hx342_0 := (cell_far (p := ⟨gb339, 1, none⟩) z13_ (.int .i64 ((rd_T92 l0 x7_1).f1))).trans hx342_0; replace hx342_1 := (cell_far (p := ⟨gb339, 1, none⟩) z13_ (.int .i64 ((rd_T92 l0 x7_1).f1))).trans hx342_1; (try have hy342_0 := fun (n_ : Nat) => (show ((((w14.drewN n_).setCell ⟨gb339, 0, none⟩ (.int .i64 ((rd_T92 l0 x7_1).f0))).setCell ⟨gb339, 1, none⟩ (.int .i64 ((rd_T92 l0 x7_1).f1)))).cell? _ = some _ from hx342_0)); (try have hy342_1 := fun (n_ : Nat) => (show ((((w14.drewN n_).setCell ⟨gb339, 0, none⟩ (.int .i64 ((rd_T92 l0 x7_1).f0))).setCell ⟨gb339, 1, none⟩ (.int .i64 ((rd_T92 l0 x7_1).f1)))).cell? _ = some _ from hx342_1)); clear hn342_0; clear hn342_1; replace p342 := eq_true p342; replace q342 := eq_true q342)); try go_wp2_with (first | ((with_reducible refine gate_dst (N := 4) rfl ?_); refine box_event ?hg (N := 4) ?hd (cs := #[.int .i64 0, .int .i64 0]) (t := 92) ?hr ?_; (case hd => rfl); (case hg => rfl); (case hr => exact z95_); intro gb339 hg w14 hbox hb; have BK339 := q_ (hbox); have GW339 := ge_ hg; have GE339 := ge_ hg; replace HB := hb_ hb; clear hb hbox hg; obtain ⟨hz_, hz_, hz_, hz_⟩ := cs2_ BK339.out) | (go_at_call 93; (with_reducible refine (impl_isKey.calls ((rd_T92 l0 x7_1).f0) true _ A5.out).mono ?_); rintro e w' ⟨rfl, ⟨nd, rfl⟩⟩; (try first | exact ⟨rfl, _, World.drewN_drewN _ _ _⟩ | exact ⟨rfl, _, Eq.trans (World.drewN_drewN _ _ _) (congrArg (World.drewN _) (Nat.add_assoc _ _ _))⟩)) | (go_at_call 94; (with_reducible refine (impl_isNum.calls ((rd_T92 l0 x7_1).f1) true _ A7.out).mono ?_); rintro e w' ⟨rfl, ⟨nd, rfl⟩⟩; (try first | exact ⟨rfl, _, World.drewN_drewN _ _ _⟩ | exact ⟨rfl, _, Eq.trans (World.drewN_drewN _ _ _) (congrArg (World.drewN _) (Nat.add_assoc _ _ _))⟩); have p342 : 0 ≤ ((ji10) : Int) := of_decide_eq_true z1_; have q342 : (ji10) < (l0.length : Int) := of_decide_eq_true z1_; obtain ⟨ad342, e342, hx342_0, hx342_1⟩ := at_T92 HR0.out (ji10) p342 q342; obtain rfl : ad338 = ad342 := z88_; have hn342_0 : ad338.block ≠ gb339 := Nat.ne_of_lt (Nat.lt_of_lt_of_le (by have := World.block_lt_of_cell? _ _ hx342_0; first | rwa [add_block] at this | exact this) GW339.out); have hn342_1 : ad338.block ≠ gb339 := Nat.ne_of_lt (Nat.lt_of_lt_of_le (by have := World.block_lt_of_cell? _ _ hx342_0; first | rwa [add_block] at this | exact this) GW339.out); replace hx342_0 := up_ HB hx342_0; replace hx342_1 := up_ HB hx342_1; replace hx342_0 := (cell_far (p := ⟨gb339, 0, none⟩) z12_ (.int .i64 ((rd_T92 l0 x7_1).f0))).trans hx342_0; replace hx342_1 := (cell_far (p := ⟨gb339, 0, none⟩) z12_ (.int .i64 ((rd_T92 l0 x7_1).f0))).trans hx342_1; replace hx342_0 := (cell_far (p := ⟨gb339, 1, none⟩) z13_ (.int .i64 ((rd_T92 l0 x7_1).f1))).trans hx342_0; replace hx342_1 := (cell_far (p := ⟨gb339, 1, none⟩) z13_ (.int .i64 ((rd_T92 l0 x7_1).f1))).trans hx342_1; (try have hy342_0 := fun (n_ : Nat) => (show ((((w14.drewN n_).setCell ⟨gb339, 0, none⟩ (.int .i64 ((rd_T92 l0 x7_1).f0))).setCell ⟨gb339, 1, none⟩ (.int .i64 ((rd_T92 l0 x7_1).f1)))).cell? _ = some _ from hx342_0)); (try have hy342_1 := fun (n_ : Nat) => (show ((((w14.drewN n_).setCell ⟨gb339, 0, none⟩ (.int .i64 ((rd_T92 l0 x7_1).f0))).setCell ⟨gb339, 1, none⟩ (.int .i64 ((rd_T92 l0 x7_1).f1)))).cell? _ = some _ from hx342_1)); clear hn342_0; clear hn342_1; replace p342 := eq_true p342; replace q342 := eq_true q342)))
       go_ret
       exact ⟨by first | rfl | (simp [errW_none, errW_some] <;> rfl) | (simp only [← hji10]; first | rfl | (simp [errW_none, errW_some] <;> rfl)) | (simp [*, errW_none, errW_some] <;> rfl), cb_⟩
      ·rw [if_neg c13] at H
       have c13b0 : decide (((rd_T92 l0 x7_1).f0) ≤ ((rd_T92 l0 (ji10)).f0)) = false := decide_eq_false c13
       clear c13
       have H' := q_ H
       clear H
       have p338 : 0 ≤ (x7_1 : Int) := of_decide_eq_true z1_
       have q338 : x7_1 < (l0.length : Int) := of_decide_eq_true z1_
       obtain ⟨ad338, e338, hx338_0, hx338_1⟩ := at_T92 HR0.out x7_1 p338 q338
       cases e338
       replace hx338_0 := up_ HB hx338_0
       replace hx338_1 := up_ HB hx338_1
       replace p338 := eq_true p338
       replace q338 := eq_true q338
       go_wp2_with (first | ((with_reducible refine gate_dst (N := 4) rfl ?_); refine box_event ?hg (N := 4) ?hd (cs := #[.int .i64 0, .int .i64 0]) (t := 92) ?hr ?_; (case hd => rfl); (case hg => rfl); (case hr => exact z95_); intro gb339 hg w16 hbox hb; have BK339 := q_ (hbox); have GW339 := ge_ hg; have GE339 := ge_ hg; replace HB := hb_ hb; clear hb hbox hg; obtain ⟨hz_, hz_, hz_, hz_⟩ := cs2_ BK339.out) | (go_at_call 93; (with_reducible refine (impl_isKey.calls ((rd_T92 l0 x7_1).f0) true _ A5.out).mono ?_); rintro e w' ⟨rfl, ⟨nd, rfl⟩⟩; (try first | exact ⟨rfl, _, World.drewN_drewN _ _ _⟩ | exact ⟨rfl, _, Eq.trans (World.drewN_drewN _ _ _) (congrArg (World.drewN _) (Nat.add_assoc _ _ _))⟩)) | (go_at_call 94; (with_reducible refine (impl_isNum.calls ((rd_T92 l0 x7_1).f1) true _ A7.out).mono ?_); rintro e w' ⟨rfl, ⟨nd, rfl⟩⟩; (try first | exact ⟨rfl, _, World.drewN_drewN _ _ _⟩ | exact ⟨rfl, _, Eq.trans (World.drewN_drewN _ _ _) (congrArg (World.drewN _) (Nat.add_assoc _ _ _))⟩); have p342 : 0 ≤ ((ji10) : Int) := of_decide_eq_true z1_; have q342 : (ji10) < (l0.length : Int) := of_decide_eq_true z1_; obtain ⟨ad342, e342, hx342_0, hx342_1⟩ := at_T92 HR0.out (ji10) p342 q342; obtain rfl : ad338 = ad342 := z88_; have hn342_0 : ad338.block ≠ gb339 := Nat.ne_of_lt (Nat.lt_of_lt_of_le (by have := World.block_lt_of_cell? _ _ hx342_0; first | rwa [add_block] at this | exact this) GW339.out); have hn342_1 : ad338.block ≠ gb339 := Nat.ne_of_lt (Nat.lt_of_lt_of_le (by have := World.block_lt_of_cell? _ _ hx342_0; first | rwa [add_block] at this | exact this) GW339.out); replace hx342_0 := up_ HB hx342_0; replace hx342_1 := up_ HB hx342_1; replace hx342_0 := (cell_far (p := ⟨gb339, 0, none⟩) z12_ (.int .i64 ((rd_T92 l0 x7_1).f0))).trans hx342_0; replace hx342_1 := (cell_far (p := ⟨gb339, 0, none⟩) z12_ (.int .i64 ((rd_T92 l0 x7_1).f0))).trans hx342_1; replace hx342_0 := (cell_far (p := ⟨gb339, 1, none⟩) z13_ (.int .i64 ((rd_T92 l0 x7_1).f1))).trans hx342_0; replace hx342_1 := (cell_far (p := ⟨gb339, 1, none⟩) z13_ (.int .i64 ((rd_T92 l0 x7_1).f1))).trans hx342_1; (try have hy342_0 := fun (n_ : Nat) => (show ((((w16.drewN n_).setCell ⟨gb339, 0, none⟩ (.int .i64 ((rd_T92 l0 x7_1).f0))).setCell ⟨gb339, 1, none⟩ (.int .i64 ((rd_T92 l0 x7_1).f1)))).cell? _ = some _ from hx342_0)); (try have hy342_1 := fun (n_ : Nat) => (show ((((w16.drewN n_).setCell ⟨gb339, 0, none⟩ (.int .i64 ((rd_T92 l0 x7_1).f0))).setCell ⟨gb339, 1, none⟩ (.int .i64 ((rd_T92 l0 x7_1).f1)))).cell? _ = some _ from hx342_1)); clear hn342_0; clear hn342_1; replace p342 := eq_true p342; replace q342 := eq_true q342))
       repeat (go_quiet (first | ((with_reducible refine gate_dst (N := 4) rfl ?_); refine box_event ?hg (N := 4) ?hd (cs := #[.int .i64 0, .int .i64 0]) (t := 92) ?hr ?_; (case hd => rfl); (case hg => rfl); (case hr => exact z95_); intro gb339 hg w16 hbox hb; have BK339 := q_ (hbox); have GW339 := ge_ hg; have GE339 := ge_ hg; replace HB := hb_ hb; clear hb hbox hg; obtain ⟨hz_, hz_, hz_, hz_⟩ := cs2_ BK339.out) | (go_at_call 93; (with_reducible refine (impl_isKey.calls ((rd_T92 l0 x7_1).f0) true _ A5.out).mono ?_); rintro e w' ⟨rfl, ⟨nd, rfl⟩⟩; (try first | exact ⟨rfl, _, World.drewN_drewN _ _ _⟩ | exact ⟨rfl, _, Eq.trans (World.drewN_drewN _ _ _) (congrArg (World.drewN _) (Nat.add_assoc _ _ _))⟩)) | (go_at_call 94; (with_reducible refine (impl_isNum.calls ((rd_T92 l0 x7_1).f1) true _ A7.out).mono ?_); rintro e w' ⟨rfl, ⟨nd, rfl⟩⟩; (try first | exact ⟨rfl, _, World.drewN_drewN _ _ _⟩ | exact ⟨rfl, _, Eq.trans (World.drewN_drewN _ _ _) (congrArg (World.drewN _) (Nat.add_assoc _ _ _))⟩); have p342 : 0 ≤ ((ji10) : Int) := of_decide_eq_true z1_; have q342 : (ji10) < (l0.length : Int) := of_decide_eq_true z1_; obtain ⟨ad342, e342, hx342_0, hx342_1⟩ := at_T92 HR0.out (ji10) p342 q342; obtain rfl : ad338 = ad342 := z88_; have hn342_0 : ad338.block ≠ gb339 := Nat.ne_of_lt (Nat.lt_of_lt_of_le (by have := World.block_lt_of_cell? _ _ hx342_0; first | rwa [add_block] at this | exact this) GW339.out); have hn342_1 : ad338.block ≠ gb339 := Nat.ne_of_lt (Nat.lt_of_lt_of_le (by have := World.block_lt_of_cell? _ _ hx342_0; first | rwa [add_block] at this | exact this) GW339.out); replace hx342_0 := up_ HB hx342_0; replace hx342_1 := up_ HB hx342_1; replace hx342_0 := (cell_far (p := ⟨gb339, 0, none⟩) z12_ (.int .i64 ((rd_T92 l0 x7_1).f0))).trans hx342_0; replace hx342_1 := (cell_far (p := ⟨gb339, 0, none⟩) z12_ (.int .i64 ((rd_T92 l0 x7_1).f0))).trans hx342_1; replace hx342_0 := (cell_far (p := ⟨gb339, 1, none⟩) z13_ (.int .i64 ((rd_T92 l0 x7_1).f1))).trans hx342_0; replace hx342_1 := (cell_far (p := ⟨gb339, 1, none⟩) z13_ (.int .i64 ((rd_T92 l0 x7_1).f1))).trans hx342_1; (try have hy342_0 := fun (n_ : Nat) => (show ((((w16.drewN n_).setCell ⟨gb339, 0, none⟩ (.int .i64 ((rd_T92 l0 x7_1).f0))).setCell ⟨gb339, 1, none⟩ (.int .i64 ((rd_T92 l0 x7_1).f1)))).cell? _ = some _ from hx342_0)); (try have hy342_1 := fun (n_ : Nat) => (show ((((w16.drewN n_).setCell ⟨gb339, 0, none⟩ (.int .i64 ((rd_T92 l0 x7_1).f0))).setCell ⟨gb339, 1, none⟩ (.int .i64 ((rd_T92 l0 x7_1).f1)))).cell? _ = some _ from hx342_1)); clear hn342_0; clear hn342_1; replace p342 := eq_true p342; replace q342 := eq_true q342)); try go_wp2_with (first | ((with_reducible refine gate_dst (N := 4) rfl ?_); refine box_event ?hg (N := 4) ?hd (cs := #[.int .i64 0, .int .i64 0]) (t := 92) ?hr ?_; (case hd => rfl); (case hg => rfl); (case hr => exact z95_); intro gb339 hg w16 hbox hb; have BK339 := q_ (hbox); have GW339 := ge_ hg; have GE339 := ge_ hg; replace HB := hb_ hb; clear hb hbox hg; obtain ⟨hz_, hz_, hz_, hz_⟩ := cs2_ BK339.out) | (go_at_call 93; (with_reducible refine (impl_isKey.calls ((rd_T92 l0 x7_1).f0) true _ A5.out).mono ?_); rintro e w' ⟨rfl, ⟨nd, rfl⟩⟩; (try first | exact ⟨rfl, _, World.drewN_drewN _ _ _⟩ | exact ⟨rfl, _, Eq.trans (World.drewN_drewN _ _ _) (congrArg (World.drewN _) (Nat.add_assoc _ _ _))⟩)) | (go_at_call 94; (with_reducible refine (impl_isNum.calls ((rd_T92 l0 x7_1).f1) true _ A7.out).mono ?_); rintro e w' ⟨rfl, ⟨nd, rfl⟩⟩; (try first | exact ⟨rfl, _, World.drewN_drewN _ _ _⟩ | exact ⟨rfl, _, Eq.trans (World.drewN_drewN _ _ _) (congrArg (World.drewN _) (Nat.add_assoc _ _ _))⟩); have p342 : 0 ≤ ((ji10) : Int) := of_decide_eq_true z1_; have q342 : (ji10) < (l0.length : Int) := of_decide_eq_true z1_; obtain ⟨ad342, e342, hx342_0, hx342_1⟩ := at_T92 HR0.out (ji10) p342 q342; obtain rfl : ad338 = ad342 := z88_; have hn342_0 : ad338.block ≠ gb339 := Nat.ne_of_lt (Nat.lt_of_lt_of_le (by have := World.block_lt_of_cell? _ _ hx342_0; first | rwa [add_block] at this | exact this) GW339.out); have hn342_1 : ad338.block ≠ gb339 := Nat.ne_of_lt (Nat.lt_of_lt_of_le (by have := World.block_lt_of_cell? _ _ hx342_0; first | rwa [add_block] at this | exact this) GW339.out); replace hx342_0 := up_ HB hx342_0; replace hx342_1 := up_ HB hx342_1; replace hx342_0 := (cell_far (p := ⟨gb339, 0, none⟩) z12_ (.int .i64 ((rd_T92 l0 x7_1).f0))).trans hx342_0; replace hx342_1 := (cell_far (p := ⟨gb339, 0, none⟩) z12_ (.int .i64 ((rd_T92 l0 x7_1).f0))).trans hx342_1; replace hx342_0 := (cell_far (p := ⟨gb339, 1, none⟩) z13_ (.int .i64 ((rd_T92 l0 x7_1).f1))).trans hx342_0; replace hx342_1 := (cell_far (p := ⟨gb339, 1, none⟩) z13_ (.int .i64 ((rd_T92 l0 x7_1).f1))).trans hx342_1; (try have hy342_0 := fun (n_ : Nat) => (show ((((w16.drewN n_).setCell ⟨gb339, 0, none⟩ (.int .i64 ((rd_T92 l0 x7_1).f0))).setCell ⟨gb339, 1, none⟩ (.int .i64 ((rd_T92 l0 x7_1).f1)))).cell? _ = some _ from hx342_0)); (try have hy342_1 := fun (n_ : Nat) => (show ((((w16.drewN n_).setCell ⟨gb339, 0, none⟩ (.int .i64 ((rd_T92 l0 x7_1).f0))).setCell ⟨gb339, 1, none⟩ (.int .i64 ((rd_T92 l0 x7_1).f1)))).cell? _ = some _ from hx342_1)); clear hn342_0; clear hn342_1; replace p342 := eq_true p342; replace q342 := eq_true q342)))
       go_roundg k1
       case measure => have := HK1.out; omega
       case rel => exact ⟨(wrap64 (x7_1 + 1)), z4_, H', ⟨z25_⟩, ⟨cb_⟩⟩
     ·have H' := q_ H
      clear H
      have p338 : 0 ≤ (x7_1 : Int) := of_decide_eq_true z1_
      have q338 : x7_1 < (l0.length : Int) := of_decide_eq_true z1_
      obtain ⟨ad338, e338, hx338_0, hx338_1⟩ := at_T92 HR0.out x7_1 p338 q338
      cases e338
      replace hx338_0 := up_ HB hx338_0
      replace hx338_1 := up_ HB hx338_1
      replace p338 := eq_true p338
      replace q338 := eq_true q338
      go_wp2_with (first | ((with_reducible refine gate_dst (N := 4) rfl ?_); refine box_event ?hg (N := 4) ?hd (cs := #[.int .i64 0, .int .i64 0]) (t := 92) ?hr ?_; (case hd => rfl); (case hg => rfl); (case hr => exact z95_); intro gb339 hg w18 hbox hb; have BK339 := q_ (hbox); have GW339 := ge_ hg; have GE339 := ge_ hg; replace HB := hb_ hb; clear hb hbox hg; obtain ⟨hz_, hz_, hz_, hz_⟩ := cs2_ BK339.out) | (go_at_call 93; (with_reducible refine (impl_isKey.calls ((rd_T92 l0 x7_1).f0) true _ A5.out).mono ?_); rintro e w' ⟨rfl, ⟨nd, rfl⟩⟩; (try first | exact ⟨rfl, _, World.drewN_drewN _ _ _⟩ | exact ⟨rfl, _, Eq.trans (World.drewN_drewN _ _ _) (congrArg (World.drewN _) (Nat.add_assoc _ _ _))⟩)) | (go_at_call 94; (with_reducible refine (impl_isNum.calls ((rd_T92 l0 x7_1).f1) true _ A7.out).mono ?_); rintro e w' ⟨rfl, ⟨nd, rfl⟩⟩; (try first | exact ⟨rfl, _, World.drewN_drewN _ _ _⟩ | exact ⟨rfl, _, Eq.trans (World.drewN_drewN _ _ _) (congrArg (World.drewN _) (Nat.add_assoc _ _ _))⟩)))
      repeat (go_quiet (first | ((with_reducible refine gate_dst (N := 4) rfl ?_); refine box_event ?hg (N := 4) ?hd (cs := #[.int .i64 0, .int .i64 0]) (t := 92) ?hr ?_; (case hd => rfl); (case hg => rfl); (case hr => exact z95_); intro gb339 hg w18 hbox hb; have BK339 := q_ (hbox); have GW339 := ge_ hg; have GE339 := ge_ hg; replace HB := hb_ hb; clear hb hbox hg; obtain ⟨hz_, hz_, hz_, hz_⟩ := cs2_ BK339.out) | (go_at_call 93; (with_reducible refine (impl_isKey.calls ((rd_T92 l0 x7_1).f0) true _ A5.out).mono ?_); rintro e w' ⟨rfl, ⟨nd, rfl⟩⟩; (try first | exact ⟨rfl, _, World.drewN_drewN _ _ _⟩ | exact ⟨rfl, _, Eq.trans (World.drewN_drewN _ _ _) (congrArg (World.drewN _) (Nat.add_assoc _ _ _))⟩)) | (go_at_call 94; (with_reducible refine (impl_isNum.calls ((rd_T92 l0 x7_1).f1) true _ A7.out).mono ?_); rintro e w' ⟨rfl, ⟨nd, rfl⟩⟩; (try first | exact ⟨rfl, _, World.drewN_drewN _ _ _⟩ | exact ⟨rfl, _, Eq.trans (World.drewN_drewN _ _ _) (congrArg (World.drewN _) (Nat.add_assoc _ _ _))⟩))); try go_wp2_with (first | ((with_reducible refine gate_dst (N := 4) rfl ?_); refine box_event ?hg (N := 4) ?hd (cs := #[.int .i64 0, .int .i64 0]) (t := 92) ?hr ?_; (case hd => rfl); (case hg => rfl); (case hr => exact z95_); intro gb339 hg w18 hbox hb; have BK339 := q_ (hbox); have GW339 := ge_ hg; have GE339 := ge_ hg; replace HB := hb_ hb; clear hb hbox hg; obtain ⟨hz_, hz_, hz_, hz_⟩ := cs2_ BK339.out) | (go_at_call 93; (with_reducible refine (impl_isKey.calls ((rd_T92 l0 x7_1).f0) true _ A5.out).mono ?_); rintro e w' ⟨rfl, ⟨nd, rfl⟩⟩; (try first | exact ⟨rfl, _, World.drewN_drewN _ _ _⟩ | exact ⟨rfl, _, Eq.trans (World.drewN_drewN _ _ _) (congrArg (World.drewN _) (Nat.add_assoc _ _ _))⟩)) | (go_at_call 94; (with_reducible refine (impl_isNum.calls ((rd_T92 l0 x7_1).f1) true _ A7.out).mono ?_); rintro e w' ⟨rfl, ⟨nd, rfl⟩⟩; (try first | exact ⟨rfl, _, World.drewN_drewN _ _ _⟩ | exact ⟨rfl, _, Eq.trans (World.drewN_drewN _ _ _) (congrArg (World.drewN _) (Nat.add_assoc _ _ _))⟩))))
      go_roundg k1
      case measure => have := HK1.out; omega
      case rel => exact ⟨(wrap64 (x7_1 + 1)), z4_, H', ⟨z25_⟩, ⟨cb_⟩⟩
    ·obtain rfl := si_ H
     have p338 : 0 ≤ (x7_1 : Int) := of_decide_eq_true z1_
     have q338 : x7_1 < (l0.length : Int) := of_decide_eq_true z1_
     obtain ⟨ad338, e338, hx338_0, hx338_1⟩ := at_T92 HR0.out x7_1 p338 q338
     cases e338
     replace hx338_0 := up_ HB hx338_0
     replace hx338_1 := up_ HB hx338_1
     replace p338 := eq_true p338
     replace q338 := eq_true q338
     go_wp2_with (first | ((with_reducible refine gate_dst (N := 4) rfl ?_); refine box_event ?hg (N := 4) ?hd (cs := #[.int .i64 0, .int .i64 0]) (t := 92) ?hr ?_; (case hd => rfl); (case hg => rfl); (case hr => exact z95_); intro gb339 hg w20 hbox hb; have BK339 := q_ (hbox); have GW339 := ge_ hg; have GE339 := ge_ hg; replace HB := hb_ hb; clear hb hbox hg; obtain ⟨hz_, hz_, hz_, hz_⟩ := cs2_ BK339.out) | (go_at_call 93; (with_reducible refine (impl_isKey.calls ((rd_T92 l0 x7_1).f0) true _ A5.out).mono ?_); rintro e w' ⟨rfl, ⟨nd, rfl⟩⟩; (try first | exact ⟨rfl, _, World.drewN_drewN _ _ _⟩ | exact ⟨rfl, _, Eq.trans (World.drewN_drewN _ _ _) (congrArg (World.drewN _) (Nat.add_assoc _ _ _))⟩)) | (go_at_call 94; (with_reducible refine (impl_isNum.calls ((rd_T92 l0 x7_1).f1) false _ A7.out).mono ?_); rintro e w' ⟨rfl, ⟨nd, rfl⟩⟩; (try first | exact ⟨rfl, _, World.drewN_drewN _ _ _⟩ | exact ⟨rfl, _, Eq.trans (World.drewN_drewN _ _ _) (congrArg (World.drewN _) (Nat.add_assoc _ _ _))⟩)))
     repeat (go_quiet (first | ((with_reducible refine gate_dst (N := 4) rfl ?_); refine box_event ?hg (N := 4) ?hd (cs := #[.int .i64 0, .int .i64 0]) (t := 92) ?hr ?_; (case hd => rfl); (case hg => rfl); (case hr => exact z95_); intro gb339 hg w20 hbox hb; have BK339 := q_ (hbox); have GW339 := ge_ hg; have GE339 := ge_ hg; replace HB := hb_ hb; clear hb hbox hg; obtain ⟨hz_, hz_, hz_, hz_⟩ := cs2_ BK339.out) | (go_at_call 93; (with_reducible refine (impl_isKey.calls ((rd_T92 l0 x7_1).f0) true _ A5.out).mono ?_); rintro e w' ⟨rfl, ⟨nd, rfl⟩⟩; (try first | exact ⟨rfl, _, World.drewN_drewN _ _ _⟩ | exact ⟨rfl, _, Eq.trans (World.drewN_drewN _ _ _) (congrArg (World.drewN _) (Nat.add_assoc _ _ _))⟩)) | (go_at_call 94; (with_reducible refine (impl_isNum.calls ((rd_T92 l0 x7_1).f1) false _ A7.out).mono ?_); rintro e w' ⟨rfl, ⟨nd, rfl⟩⟩; (try first | exact ⟨rfl, _, World.drewN_drewN _ _ _⟩ | exact ⟨rfl, _, Eq.trans (World.drewN_drewN _ _ _) (congrArg (World.drewN _) (Nat.add_assoc _ _ _))⟩))); try go_wp2_with (first | ((with_reducible refine gate_dst (N := 4) rfl ?_); refine box_event ?hg (N := 4) ?hd (cs := #[.int .i64 0, .int .i64 0]) (t := 92) ?hr ?_; (case hd => rfl); (case hg => rfl); (case hr => exact z95_); intro gb339 hg w20 hbox hb; have BK339 := q_ (hbox); have GW339 := ge_ hg; have GE339 := ge_ hg; replace HB := hb_ hb; clear hb hbox hg; obtain ⟨hz_, hz_, hz_, hz_⟩ := cs2_ BK339.out) | (go_at_call 93; (with_reducible refine (impl_isKey.calls ((rd_T92 l0 x7_1).f0) true _ A5.out).mono ?_); rintro e w' ⟨rfl, ⟨nd, rfl⟩⟩; (try first | exact ⟨rfl, _, World.drewN_drewN _ _ _⟩ | exact ⟨rfl, _, Eq.trans (World.drewN_drewN _ _ _) (congrArg (World.drewN _) (Nat.add_assoc _ _ _))⟩)) | (go_at_call 94; (with_reducible refine (impl_isNum.calls ((rd_T92 l0 x7_1).f1) false _ A7.out).mono ?_); rintro e w' ⟨rfl, ⟨nd, rfl⟩⟩; (try first | exact ⟨rfl, _, World.drewN_drewN _ _ _⟩ | exact ⟨rfl, _, Eq.trans (World.drewN_drewN _ _ _) (congrArg (World.drewN _) (Nat.add_assoc _ _ _))⟩))))
     go_ret
     exact ⟨z2_, cb_⟩
   ·obtain rfl := si_ H
    have p338 : 0 ≤ (x7_1 : Int) := of_decide_eq_true z1_
    have q338 : x7_1 < (l0.length : Int) := of_decide_eq_true z1_
    obtain ⟨ad338, e338, hx338_0, hx338_1⟩ := at_T92 HR0.out x7_1 p338 q338
    cases e338
    replace hx338_0 := up_ HB hx338_0
    replace hx338_1 := up_ HB hx338_1
    replace p338 := eq_true p338
    replace q338 := eq_true q338
    go_wp2_with (first | ((with_reducible refine gate_dst (N := 4) rfl ?_); refine box_event ?hg (N := 4) ?hd (cs := #[.int .i64 0, .int .i64 0]) (t := 92) ?hr ?_; (case hd => rfl); (case hg => rfl); (case hr => exact z95_); intro gb339 hg w22 hbox hb; have BK339 := q_ (hbox); have GW339 := ge_ hg; have GE339 := ge_ hg; replace HB := hb_ hb; clear hb hbox hg; obtain ⟨hz_, hz_, hz_, hz_⟩ := cs2_ BK339.out) | (go_at_call 93; (with_reducible refine (impl_isKey.calls ((rd_T92 l0 x7_1).f0) false _ A5.out).mono ?_); rintro e w' ⟨rfl, ⟨nd, rfl⟩⟩; (try first | exact ⟨rfl, _, World.drewN_drewN _ _ _⟩ | exact ⟨rfl, _, Eq.trans (World.drewN_drewN _ _ _) (congrArg (World.drewN _) (Nat.add_assoc _ _ _))⟩)))
    repeat (go_quiet (first | ((with_reducible refine gate_dst (N := 4) rfl ?_); refine box_event ?hg (N := 4) ?hd (cs := #[.int .i64 0, .int .i64 0]) (t := 92) ?hr ?_; (case hd => rfl); (case hg => rfl); (case hr => exact z95_); intro gb339 hg w22 hbox hb; have BK339 := q_ (hbox); have GW339 := ge_ hg; have GE339 := ge_ hg; replace HB := hb_ hb; clear hb hbox hg; obtain ⟨hz_, hz_, hz_, hz_⟩ := cs2_ BK339.out) | (go_at_call 93; (with_reducible refine (impl_isKey.calls ((rd_T92 l0 x7_1).f0) false _ A5.out).mono ?_); rintro e w' ⟨rfl, ⟨nd, rfl⟩⟩; (try first | exact ⟨rfl, _, World.drewN_drewN _ _ _⟩ | exact ⟨rfl, _, Eq.trans (World.drewN_drewN _ _ _) (congrArg (World.drewN _) (Nat.add_assoc _ _ _))⟩))); try go_wp2_with (first | ((with_reducible refine gate_dst (N := 4) rfl ?_); refine box_event ?hg (N := 4) ?hd (cs := #[.int .i64 0, .int .i64 0]) (t := 92) ?hr ?_; (case hd => rfl); (case hg => rfl); (case hr => exact z95_); intro gb339 hg w22 hbox hb; have BK339 := q_ (hbox); have GW339 := ge_ hg; have GE339 := ge_ hg; replace HB := hb_ hb; clear hb hbox hg; obtain ⟨hz_, hz_, hz_, hz_⟩ := cs2_ BK339.out) | (go_at_call 93; (with_reducible refine (impl_isKey.calls ((rd_T92 l0 x7_1).f0) false _ A5.out).mono ?_); rintro e w' ⟨rfl, ⟨nd, rfl⟩⟩; (try first | exact ⟨rfl, _, World.drewN_drewN _ _ _⟩ | exact ⟨rfl, _, Eq.trans (World.drewN_drewN _ _ _) (congrArg (World.drewN _) (Nat.add_assoc _ _ _))⟩))))
    go_ret
    exact ⟨z2_, cb_⟩
  ·obtain rfl := si_ H
   go_wp2
   repeat (go_quiet (fail); try go_wp2)
   go_ret
   exact ⟨z2_, cb_⟩

/-! ### impl_leafOk_f1: function 123 -/
def impl_leafOk_f1.f (a0_0 : Int) (a0_1 : Int) (a28_0 : Int) (a36_0 : Int) : Option (Bool) := (impl_within.f a0_0 a28_0 (wrap64 (a36_0 - 1))).bind fun t344 => (some (!t344))
set_option maxHeartbeats 8000000 in
set_option maxRecDepth 100000 in
theorem impl_leafOk_f1.calls (a0_0 : Int) (a0_1 : Int) (gc28 : Nat) (a28_0 : Int) (gc36 : Nat) (a36_0 : Int) (r : Bool) (w : World) (hb28 : w.heap[gc28]? = some (.cells #[.int .i64 a28_0] 3 (0, 0))) (hb36 : w.heap[gc36]? = some (.cells #[.int .i64 a36_0] 3 (0, 0))) (h : impl_leafOk_f1.f a0_0 a0_1 a28_0 a36_0 = some r) :
  Calls Try.prog 123 #[.agg #[.int .i64 a0_0, .int .i64 a0_1], .pointer (some ⟨gc28, 0, none⟩), .pointer (some ⟨gc36, 0, none⟩)] w fun e w' => e = .returned (.bool r) ∧ Below w.heap.size w w' := by
 have hu92 := Try.underlying92
 have BK28 := q_ hb28
 clear hb28
 have BK36 := q_ hb36
 clear hb36
 have HB := q_ (Below.refl w.heap.size w)
 have H := h; clear h
 unfold impl_leafOk_f1.f at H
 replace H := bi_ H; obtain ⟨t344, A4, H⟩ := H
 obtain rfl := si_ H
 go_enter Try.func123, Try.ntmps123
 go_wp2_with (first | ((with_reducible refine gate_dst (N := 3) rfl ?_); refine box_event ?hg (N := 3) ?hd (cs := #[.int .i64 a0_0, .int .i64 a0_1]) (t := 92) ?hr ?_; (case hd => rfl); (case hg => rfl); (case hr => exact z95_); intro gb343 hg w5 hbox hb; have BK343 := q_ (hbox); have GW343 := ge_ hg; have GE343 := ge_ hg; replace HB := hb_ hb; have NB28_343 := nl_ hg BK28; have NB343_28 := nr_ hg BK28; replace BK28 := rb_ BK28 hb; have NB36_343 := nl_ hg BK36; have NB343_36 := nr_ hg BK36; replace BK36 := rb_ BK36 hb; clear hb hbox hg; have hnb6 := NB343_28.out; have hnc6 := NB28_343.out; have hnb7 := NB343_36.out; have hnc7 := NB36_343.out; obtain ⟨hz_, hz_, hz_, hz_⟩ := cs2_ BK343.out; have hcz9_0 : w5.cell? ⟨gc28, 0, none⟩ = some (.int .i64 a28_0) := (blk_cell BK28.out 0).trans rfl; have hfz9_0 := blk_frozen BK28.out 0; have hcz10_0 : w5.cell? ⟨gc36, 0, none⟩ = some (.int .i64 a36_0) := (blk_cell BK36.out 0).trans rfl; have hfz10_0 := blk_frozen BK36.out 0) | ((with_reducible refine gate_callee (f := 102) rfl ?_); refine goesL_ (some 10) rfl rfl Try.func102 (by kernel_rfl) rfl #[.int .i64 a0_0, .int .i64 a28_0, .int .i64 (wrap64 (a36_0 - 1))] rfl z0_ ?_; (with_reducible refine (impl_within.calls a0_0 a28_0 (wrap64 (a36_0 - 1)) t344 _ A4.out).mono ?_); rintro e w' ⟨rfl, ⟨nd, rfl⟩⟩; refine ⟨_, rfl, ?_⟩))
 go_ret
 exact ⟨z2_, cb_⟩

/-! ### slices_IndexFunc_Pair_123: function 118 -/
def slices_IndexFunc_Pair_123.l0 : Nat → List (S92) → Int → Int → Int → Int → Option (Int)
 | 0, _, _, _, _, _ => none
 | k + 1, x0, x7, x8, x29000, x30000 => if x8 < x7 then (if 0 ≤ x8 then (if x8 < (x0.length : Int) then ((impl_leafOk_f1.f ((rd_T92 x0 x8).f0) ((rd_T92 x0 x8).f1) x29000 x30000).bind fun t346 => (if t346 = true then (some x8) else (slices_IndexFunc_Pair_123.l0 k x0 x7 (wrap64 (x8 + 1)) x29000 x30000))) else (none)) else (none)) else (some (-1))
def slices_IndexFunc_Pair_123.f (k : Nat) (l0 : List (S92)) (a28_0 : Int) (a29_0 : Int) : Option (Int) := slices_IndexFunc_Pair_123.l0 k l0 (l0.length : Int) 0 a28_0 a29_0
theorem slices_IndexFunc_Pair_123.mono_l : ∀ k, (∀ y0 y1 y2 y3 y4, LeO (slices_IndexFunc_Pair_123.l0 k y0 y1 y2 y3 y4) (slices_IndexFunc_Pair_123.l0 (k + 1) y0 y1 y2 y3 y4))
 | 0 => fun _ _ _ _ _ r h => by simp [slices_IndexFunc_Pair_123.l0] at h
 | k + 1 => by
  have ih0 := slices_IndexFunc_Pair_123.mono_l k
  ·intro y0 y1 y2 y3 y4
   unfold slices_IndexFunc_Pair_123.l0
   exact zm_
theorem slices_IndexFunc_Pair_123.mono : ∀ a0 a1 a2 k, LeO (slices_IndexFunc_Pair_123.f k a0 a1 a2) (slices_IndexFunc_Pair_123.f (k + 1) a0 a1 a2) := by
 intro a0 a1 a2 k
 have ih0 := slices_IndexFunc_Pair_123.mono_l k
 unfold slices_IndexFunc_Pair_123.f
 exact zm_
set_option maxHeartbeats 8000000 in
set_option maxRecDepth 100000 in
theorem slices_IndexFunc_Pair_123.calls (k : Nat) (A0 : Option Addr) (c0 : Nat) (l0 : List (S92)) (gc28 : Nat) (gc29 : Nat) (a28_0 : Int) (a29_0 : Int) (r : Int) (w : World) (hr0 : Kd.C k92 w A0 l0.length l0) (hc0 : l0.length ≤ c0) (hb28 : w.heap[gc28]? = some (.cells #[.int .i64 a28_0] 3 (0, 0))) (hb29 : w.heap[gc29]? = some (.cells #[.int .i64 a29_0] 3 (0, 0))) (h : slices_IndexFunc_Pair_123.f k l0 a28_0 a29_0 = some r) :
  Calls Try.prog 118 #[.slice A0 l0.length c0, .func (.func 123) #[] #[.pointer (some ⟨gc28, 0, none⟩), .pointer (some ⟨gc29, 0, none⟩)]] w fun e w' => e = .returned (.int .i64 r) ∧ Below w.heap.size w w' := by
 have hu92 := Try.underlying92
 have HR0 := q_ hr0
 have HC0 := q_ hc0
 clear hr0 hc0
 have BK28 := q_ hb28
 clear hb28
 have BK29 := q_ hb29
 clear hb29
 have HB := q_ (Below.refl w.heap.size w)
 have H := h; clear h
 unfold slices_IndexFunc_Pair_123.f at H
 have H' := q_ H
 clear H
 go_enter Try.func118, Try.ntmps118
 go_wp2
 go_loopg [8] k (fun kq v8 w' => ∃ (x8_1 : Int), v8 = .int .i64 x8_1 ∧ Aside0 (slices_IndexFunc_Pair_123.l0 kq l0 (l0.length : Int) x8_1 a28_0 a29_0 = some r) ∧ Aside0 (kq ≤ k) ∧ Aside0 (w'.heap[gc28]? = some (.cells #[.int .i64 a28_0] 3 (0, 0))) ∧ Aside0 (w'.heap[gc29]? = some (.cells #[.int .i64 a29_0] 3 (0, 0))) ∧ Aside0 (Below w.heap.size w w'))
 case atStart => exact ⟨(0), z4_, H', ⟨Nat.le_refl _⟩, ⟨z52_⟩, ⟨z53_⟩, ⟨cb_⟩⟩
 case round =>
  clear H'
  try clear c1
  try clear c2
  try clear p2
  obtain ⟨x8_1, rfl, HA, HK1, BK28, BK29, HB⟩ := hrel
  obtain ⟨k1, rfl, H⟩ := rn_ (k := gk) HA (by rintro rfl; simp only [slices_IndexFunc_Pair_123.l0])
  clear HA
  simp only [slices_IndexFunc_Pair_123.l0] at H
  replace H := kd_ H; rcases H with ⟨c3b0, H⟩ | ⟨c3b0, H⟩
  ·replace H := kdn_ H; obtain ⟨c4b0, H⟩ := H
   replace H := kdn_ H; obtain ⟨c5b0, H⟩ := H
   replace H := bi_ H; obtain ⟨t346, A6, H⟩ := H
   have HC7 := q_ H
   clear H
   have p345 : 0 ≤ (x8_1 : Int) := of_decide_eq_true z1_
   have q345 : x8_1 < (l0.length : Int) := of_decide_eq_true z1_
   obtain ⟨ad345, e345, hx345_0, hx345_1⟩ := at_T92 HR0.out x8_1 p345 q345
   cases e345
   replace hx345_0 := up_ HB hx345_0
   replace hx345_1 := up_ HB hx345_1
   replace p345 := eq_true p345
   replace q345 := eq_true q345
   go_upto_if 16 with (first | (go_at_call 123; refine calls_of_args (args' := #[.agg #[.int .i64 ((rd_T92 l0 x8_1).f0), .int .i64 ((rd_T92 l0 x8_1).f1)], .pointer (some ⟨gc28, 0, none⟩), .pointer (some ⟨gc29, 0, none⟩)]) (by first | rfl | rfl) ?_; (with_reducible refine (impl_leafOk_f1.calls ((rd_T92 l0 x8_1).f0) ((rd_T92 l0 x8_1).f1) gc28 a28_0 gc29 a29_0 t346 _ ?side1 ?side2 A6.out).mono ?_); (case side1 => exact z114_); (case side2 => exact z115_); rintro e w8 ⟨rfl, hb⟩; replace BK28 := rb_ BK28 hb; replace BK29 := rb_ BK29 hb; replace HB := hb_ hb; (try clear hb); (try clear hb2); (try clear hk); (try clear hi)))
   (try simp only [Act.put, List.setIfInBounds_toArray, List.set_cons_zero, List.set_cons_succ])
   have H := HC7.out
   clear HC7
   replace H := kb_ H; rcases H with ⟨rfl, H⟩ | ⟨rfl, H⟩
   ·obtain rfl := si_ H
    go_wp2
    go_ret
    exact ⟨z2_, cb_⟩
   ·have H' := q_ H
    clear H
    go_wp2
    go_roundg k1
    case measure => have := HK1.out; omega
    case rel => exact ⟨(wrap64 (x8_1 + 1)), z4_, H', ⟨z25_⟩, ⟨z52_⟩, ⟨z53_⟩, ⟨cb_⟩⟩
  ·obtain rfl := si_ H
   go_wp2
   go_ret
   exact ⟨z2_, cb_⟩

/-! ### slices_ContainsFunc_Pair_123: function 122 -/
def slices_ContainsFunc_Pair_123.f (k : Nat) (l0 : List (S92)) (a28_0 : Int) (a29_0 : Int) : Option (Bool) := (slices_IndexFunc_Pair_123.f k l0 a28_0 a29_0).bind fun t347 => (some (decide (t347 ≥ 0)))
theorem slices_ContainsFunc_Pair_123.mono : ∀ a0 a1 a2 k, LeO (slices_ContainsFunc_Pair_123.f k a0 a1 a2) (slices_ContainsFunc_Pair_123.f (k + 1) a0 a1 a2) := by
 intro a0 a1 a2 k
 unfold slices_ContainsFunc_Pair_123.f
 have m0 := @slices_IndexFunc_Pair_123.mono
 exact zm_
set_option maxHeartbeats 8000000 in
set_option maxRecDepth 100000 in
theorem slices_ContainsFunc_Pair_123.calls (k : Nat) (A0 : Option Addr) (c0 : Nat) (l0 : List (S92)) (gc28 : Nat) (gc29 : Nat) (a28_0 : Int) (a29_0 : Int) (r : Bool) (w : World) (hr0 : Kd.C k92 w A0 l0.length l0) (hc0 : l0.length ≤ c0) (hb28 : w.heap[gc28]? = some (.cells #[.int .i64 a28_0] 3 (0, 0))) (hb29 : w.heap[gc29]? = some (.cells #[.int .i64 a29_0] 3 (0, 0))) (h : slices_ContainsFunc_Pair_123.f k l0 a28_0 a29_0 = some r) :
  Calls Try.prog 122 #[.slice A0 l0.length c0, .func (.func 123) #[] #[.pointer (some ⟨gc28, 0, none⟩), .pointer (some ⟨gc29, 0, none⟩)]] w fun e w' => e = .returned (.bool r) ∧ Below w.heap.size w w' := by
 have HR0 := q_ hr0
 have HC0 := q_ hc0
 clear hr0 hc0
 have BK28 := q_ hb28
 clear hb28
 have BK29 := q_ hb29
 clear hb29
 have HB := q_ (Below.refl w.heap.size w)
 have H := h; clear h
 unfold slices_ContainsFunc_Pair_123.f at H
 replace H := bi_ H; obtain ⟨t347, A3, H⟩ := H
 obtain rfl := si_ H
 go_enter Try.func122, Try.ntmps122
 go_wp2_with (first | ((with_reducible refine gate_callee (f := 118) rfl ?_); refine goesL_ (some 7) rfl rfl Try.func118 (by kernel_rfl) rfl #[.slice A0 l0.length c0, .func (.func 123) #[] #[.pointer (some ⟨gc28, 0, none⟩), .pointer (some ⟨gc29, 0, none⟩)]] rfl z0_ ?_; (with_reducible refine (slices_IndexFunc_Pair_123.calls k _ _ l0 gc28 gc29 a28_0 a29_0 t347 _ ?side1 ?side2 ?side3 ?side4 A3.out).mono ?_); (case side1 => exact z116_); (case side2 => exact HC0.out); (case side3 => exact z114_); (case side4 => exact z115_); rintro e w4 ⟨rfl, hb⟩; refine ⟨_, rfl, ?_⟩; replace BK28 := rb_ BK28 hb; replace BK29 := rb_ BK29 hb; replace HB := hb_ hb; (try clear hb); (try clear hb2); (try clear hk); (try clear hi)))
 go_ret
 exact ⟨z2_, cb_⟩

/-! ### impl_leafOk: function 101 -/
def impl_leafOk.f (k : Nat) (a0_0 : Bool) (l0_1 : List (S92)) (l0_2 : List Int) (l0_3 : List (S34)) (l0_4 : List (S72)) (a1 : Int) (a2 : Int) : Option (Bool) := (impl_MapOk.f k l0_1).bind fun t351 => (if t351 = true then (if (l0_1.length : Int) > 4 then (some false) else (if (l0_2.length : Int) > 0 then (some false) else (if (l0_3.length : Int) > 0 then (some false) else (if (l0_4.length : Int) > 0 then (some false) else ((slices_ContainsFunc_Pair_123.f k l0_1 a1 a2).bind fun t352 => (some (!t352))))))) else (some false))
theorem impl_leafOk.mono : ∀ a0 a1 a2 a3 a4 a5 a6 k, LeO (impl_leafOk.f k a0 a1 a2 a3 a4 a5 a6) (impl_leafOk.f (k + 1) a0 a1 a2 a3 a4 a5 a6) := by
 intro a0 a1 a2 a3 a4 a5 a6 k
 unfold impl_leafOk.f
 have m0 := @impl_MapOk.mono
 have m1 := @slices_ContainsFunc_Pair_123.mono
 exact zm_
set_option maxHeartbeats 8000000 in
set_option maxRecDepth 100000 in
theorem impl_leafOk.calls (k : Nat) (a0_0 : Bool) (A0_1 : Option Addr) (c0_1 : Nat) (l0_1 : List (S92)) (A0_2 : Option Addr) (c0_2 : Nat) (l0_2 : List Int) (A0_3 : Option Addr) (c0_3 : Nat) (l0_3 : List (S34)) (A0_4 : Option Addr) (c0_4 : Nat) (l0_4 : List (S72)) (a1 : Int) (a2 : Int) (r : Bool) (w : World) (hr0_1 : Kd.C k92 w A0_1 l0_1.length l0_1) (hc0_1 : l0_1.length ≤ c0_1) (hr0_2 : Kd.C (Kd.int .i64) w A0_2 l0_2.length l0_2) (hc0_2 : l0_2.length ≤ c0_2) (hr0_3 : Kd.C k34 w A0_3 l0_3.length l0_3) (hc0_3 : l0_3.length ≤ c0_3) (hr0_4 : Kd.C k72 w A0_4 l0_4.length l0_4) (hc0_4 : l0_4.length ≤ c0_4) (h : impl_leafOk.f k a0_0 l0_1 l0_2 l0_3 l0_4 a1 a2 = some r) :
  Calls Try.prog 101 #[.agg #[.bool a0_0, .slice A0_1 l0_1.length c0_1, .slice A0_2 l0_2.length c0_2, .slice A0_3 l0_3.length c0_3, .slice A0_4 l0_4.length c0_4], .int .i64 a1, .int .i64 a2] w fun e w' => e = .returned (.bool r) ∧ Below w.heap.size w w' := by
 have hu34 := Try.underlying34
 have HR0_1 := q_ hr0_1
 have HC0_1 := q_ hc0_1
 clear hr0_1 hc0_1
 have HR0_2 := q_ hr0_2
 have HC0_2 := q_ hc0_2
 clear hr0_2 hc0_2
 have HR0_3 := q_ hr0_3
 have HC0_3 := q_ hc0_3
 clear hr0_3 hc0_3
 have HR0_4 := q_ hr0_4
 have HC0_4 := q_ hc0_4
 clear hr0_4 hc0_4
 have HB := q_ (Below.refl w.heap.size w)
 have H := h; clear h
 unfold impl_leafOk.f at H
 replace H := bi_ H; obtain ⟨t351, A4, H⟩ := H
 replace H := kb_ H; rcases H with ⟨rfl, H⟩ | ⟨rfl, H⟩
 ·replace H := kg_ H; rcases H with ⟨c6b0, H⟩ | ⟨c6b0, H⟩
  ·have c6b1 : decide (4 < l0_1.length) = true := decide_eq_true (by have := of_decide_eq_true c6b0; omega)
   obtain rfl := si_ H
   go_enter Try.func101, Try.ntmps101
   go_wp2_with (first | ((with_reducible refine gate_dst (N := 3) rfl ?_); (try (refine gate_guard (by rfl) ?_; dsimp only)); refine box_event ?hg (N := 3) ?hd (cs := #[.bool a0_0, .slice A0_1 l0_1.length c0_1, .slice A0_2 l0_2.length c0_2, .slice A0_3 l0_3.length c0_3, .slice A0_4 l0_4.length c0_4]) (t := 34) ?hr ?_; (case hd => rfl); (case hg => rfl); (case hr => exact z95_); intro gb348 hg w7 hbox hb; have BK348 := q_ (hbox); have GW348 := ge_ hg; have GE348 := ge_ hg; replace HB := hb_ hb; clear hb hbox hg) | ((with_reducible refine gate_dst (N := 4) rfl ?_); (try (refine gate_guard (by rfl) ?_; dsimp only)); refine box_event ?hg (N := 4) ?hd (cs := #[.int .i64 a1]) (t := 3) ?hr ?_; (case hd => rfl); (case hg => rfl); (case hr => exact z95_); intro gb349 hg w8 hbox hb; have BK349 := q_ (hbox); have GW349 := ge_ hg; have GE349 := ge_ hg; replace HB := hb_ hb; have NB348_349 := nl_ hg BK348; have NB349_348 := nr_ hg BK348; replace BK348 := rb_ BK348 hb; clear hb hbox hg) | ((with_reducible refine gate_dst (N := 5) rfl ?_); (try (refine gate_guard (by rfl) ?_; dsimp only)); refine box_event ?hg (N := 5) ?hd (cs := #[.int .i64 a2]) (t := 3) ?hr ?_; (case hd => rfl); (case hg => rfl); (case hr => exact z95_); intro gb350 hg w9 hbox hb; have BK350 := q_ (hbox); have GW350 := ge_ hg; have GE350 := ge_ hg; replace HB := hb_ hb; have NB348_350 := nl_ hg BK348; have NB350_348 := nr_ hg BK348; replace BK348 := rb_ BK348 hb; clear hb hbox hg; have hnb10 := NB348_350.out; have hnc10 := NB350_348.out; obtain ⟨hz_, hz_, hz_, hz_, hz_, hz_, hz_, hz_, hz_, hz_⟩ := cs5_ BK348.out) | ((with_reducible refine gate_callee (f := 51) rfl ?_); refine goesL_ (some 9) rfl rfl Try.func51 (by kernel_rfl) rfl #[.slice A0_1 l0_1.length c0_1] rfl z0_ ?_; (with_reducible refine (impl_MapOk.calls k _ _ l0_1 true _ ?side1 ?side2 A4.out).mono ?_); (case side1 => exact z94_); (case side2 => exact z117_); rintro e w12 ⟨rfl, hb⟩; refine ⟨_, rfl, ?_⟩; replace BK348 := rb_ BK348 hb; replace HB := hb_ hb; (try clear hb); (try clear hb2); (try clear hk); (try clear hi); obtain ⟨hz_, hz_, hz_, hz_, hz_, hz_, hz_, hz_, hz_, hz_⟩ := cs5_ BK348.out))
   go_ret
   exact ⟨z2_, cb_⟩
  ·have c6b1 : decide (4 < l0_1.length) = false := decide_eq_false (by have := of_decide_eq_false c6b0; omega)
   replace H := kg_ H; rcases H with ⟨c14b0, H⟩ | ⟨c14b0, H⟩
   ·have c14b1 : decide (0 < l0_2.length) = true := decide_eq_true (by have := of_decide_eq_true c14b0; omega)
    obtain rfl := si_ H
    go_enter Try.func101, Try.ntmps101
    go_wp2_with (first | ((with_reducible refine gate_dst (N := 3) rfl ?_); (try (refine gate_guard (by rfl) ?_; dsimp only)); refine box_event ?hg (N := 3) ?hd (cs := #[.bool a0_0, .slice A0_1 l0_1.length c0_1, .slice A0_2 l0_2.length c0_2, .slice A0_3 l0_3.length c0_3, .slice A0_4 l0_4.length c0_4]) (t := 34) ?hr ?_; (case hd => rfl); (case hg => rfl); (case hr => exact z95_); intro gb348 hg w15 hbox hb; have BK348 := q_ (hbox); have GW348 := ge_ hg; have GE348 := ge_ hg; replace HB := hb_ hb; clear hb hbox hg) | ((with_reducible refine gate_dst (N := 4) rfl ?_); (try (refine gate_guard (by rfl) ?_; dsimp only)); refine box_event ?hg (N := 4) ?hd (cs := #[.int .i64 a1]) (t := 3) ?hr ?_; (case hd => rfl); (case hg => rfl); (case hr => exact z95_); intro gb349 hg w16 hbox hb; have BK349 := q_ (hbox); have GW349 := ge_ hg; have GE349 := ge_ hg; replace HB := hb_ hb; have NB348_349 := nl_ hg BK348; have NB349_348 := nr_ hg BK348; replace BK348 := rb_ BK348 hb; clear hb hbox hg) | ((with_reducible refine gate_dst (N := 5) rfl ?_); (try (refine gate_guard (by rfl) ?_; dsimp only)); refine box_event ?hg (N := 5) ?hd (cs := #[.int .i64 a2]) (t := 3) ?hr ?_; (case hd => rfl); (case hg => rfl); (case hr => exact z95_); intro gb350 hg w17 hbox hb; have BK350 := q_ (hbox); have GW350 := ge_ hg; have GE350 := ge_ hg; replace HB := hb_ hb; have NB348_350 := nl_ hg BK348; have NB350_348 := nr_ hg BK348; replace BK348 := rb_ BK348 hb; clear hb hbox hg; have hnb18 := NB348_350.out; have hnc18 := NB350_348.out; obtain ⟨hz_, hz_, hz_, hz_, hz_, hz_, hz_, hz_, hz_, hz_⟩ := cs5_ BK348.out) | ((with_reducible refine gate_callee (f := 51) rfl ?_); refine goesL_ (some 9) rfl rfl Try.func51 (by kernel_rfl) rfl #[.slice A0_1 l0_1.length c0_1] rfl z0_ ?_; (with_reducible refine (impl_MapOk.calls k _ _ l0_1 true _ ?side1 ?side2 A4.out).mono ?_); (case side1 => exact z94_); (case side2 => exact z117_); rintro e w20 ⟨rfl, hb⟩; refine ⟨_, rfl, ?_⟩; replace BK348 := rb_ BK348 hb; replace HB := hb_ hb; (try clear hb); (try clear hb2); (try clear hk); (try clear hi); obtain ⟨hz_, hz_, hz_, hz_, hz_, hz_, hz_, hz_, hz_, hz_⟩ := cs5_ BK348.out))
    go_ret
    exact ⟨z2_, cb_⟩
   ·have c14b1 : decide (0 < l0_2.length) = false := decide_eq_false (by have := of_decide_eq_false c14b0; omega)
    replace H := kg_ H; rcases H with ⟨c22b0, H⟩ | ⟨c22b0, H⟩
    ·have c22b1 : decide (0 < l0_3.length) = true := decide_eq_true (by have := of_decide_eq_true c22b0; omega)
     obtain rfl := si_ H
     go_enter Try.func101, Try.ntmps101
     go_wp2_with (first | ((with_reducible refine gate_dst (N := 3) rfl ?_); (try (refine gate_guard (by rfl) ?_; dsimp only)); refine box_event ?hg (N := 3) ?hd (cs := #[.bool a0_0, .slice A0_1 l0_1.length c0_1, .slice A0_2 l0_2.length c0_2, .slice A0_3 l0_3.length c0_3, .slice A0_4 l0_4.length c0_4]) (t := 34) ?hr ?_; (case hd => rfl); (case hg => rfl); (case hr => exact z95_); intro gb348 hg w23 hbox hb; have BK348 := q_ (hbox); have GW348 := ge_ hg; have GE348 := ge_ hg; replace HB := hb_ hb; clear hb hbox hg) | ((with_reducible refine gate_dst (N := 4) rfl ?_); (try (refine gate_guard (by rfl) ?_; dsimp only)); refine box_event ?hg (N := 4) ?hd (cs := #[.int .i64 a1]) (t := 3) ?hr ?_; (case hd => rfl); (case hg => rfl); (case hr => exact z95_); intro gb349 hg w24 hbox hb; have BK349 := q_ (hbox); have GW349 := ge_ hg; have GE349 := ge_ hg; replace HB := hb_ hb; have NB348_349 := nl_ hg BK348; have NB349_348 := nr_ hg BK348; replace BK348 := rb_ BK348 hb; clear hb hbox hg) | ((with_reducible refine gate_dst (N := 5) rfl ?_); (try (refine gate_guard (by rfl) ?_; dsimp only)); refine box_event ?hg (N := 5) ?hd (cs := #[.int .i64 a2]) (t := 3) ?hr ?_; (case hd => rfl); (case hg => rfl); (case hr => exact z95_); intro gb350 hg w25 hbox hb; have BK350 := q_ (hbox); have GW350 := ge_ hg; have GE350 := ge_ hg; replace HB := hb_ hb; have NB348_350 := nl_ hg BK348; have NB350_348 := nr_ hg BK348; replace BK348 := rb_ BK348 hb; clear hb hbox hg; have hnb26 := NB348_350.out; have hnc26 := NB350_348.out; obtain ⟨hz_, hz_, hz_, hz_, hz_, hz_, hz_, hz_, hz_, hz_⟩ := cs5_ BK348.out) | ((with_reducible refine gate_callee (f := 51) rfl ?_); refine goesL_ (some 9) rfl rfl Try.func51 (by kernel_rfl) rfl #[.slice A0_1 l0_1.length c0_1] rfl z0_ ?_; (with_reducible refine (impl_MapOk.calls k _ _ l0_1 true _ ?side1 ?side2 A4.out).mono ?_); (case side1 => exact z94_); (case side2 => exact z117_); rintro e w28 ⟨rfl, hb⟩; refine ⟨_, rfl, ?_⟩; replace BK348 := rb_ BK348 hb; replace HB := hb_ hb; (try clear hb); (try clear hb2); (try clear hk); (try clear hi); obtain ⟨hz_, hz_, hz_, hz_, hz_, hz_, hz_, hz_, hz_, hz_⟩ := cs5_ BK348.out))
     go_ret
     exact ⟨z2_, cb_⟩
    ·have c22b1 : decide (0 < l0_3.length) = false := decide_eq_false (by have := of_decide_eq_false c22b0; omega)
     have HC30 := q_ H
     clear H
     go_enter Try.func101, Try.ntmps101
     go_upto_if 34 with (first | ((with_reducible refine gate_dst (N := 3) rfl ?_); (try (refine gate_guard (by rfl) ?_; dsimp only)); refine box_event ?hg (N := 3) ?hd (cs := #[.bool a0_0, .slice A0_1 l0_1.length c0_1, .slice A0_2 l0_2.length c0_2, .slice A0_3 l0_3.length c0_3, .slice A0_4 l0_4.length c0_4]) (t := 34) ?hr ?_; (case hd => rfl); (case hg => rfl); (case hr => exact z95_); intro gb348 hg w31 hbox hb; have BK348 := q_ (hbox); have GW348 := ge_ hg; have GE348 := ge_ hg; replace HB := hb_ hb; clear hb hbox hg) | ((with_reducible refine gate_dst (N := 4) rfl ?_); (try (refine gate_guard (by rfl) ?_; dsimp only)); refine box_event ?hg (N := 4) ?hd (cs := #[.int .i64 a1]) (t := 3) ?hr ?_; (case hd => rfl); (case hg => rfl); (case hr => exact z95_); intro gb349 hg w32 hbox hb; have BK349 := q_ (hbox); have GW349 := ge_ hg; have GE349 := ge_ hg; replace HB := hb_ hb; have NB348_349 := nl_ hg BK348; have NB349_348 := nr_ hg BK348; replace BK348 := rb_ BK348 hb; clear hb hbox hg) | ((with_reducible refine gate_dst (N := 5) rfl ?_); (try (refine gate_guard (by rfl) ?_; dsimp only)); refine box_event ?hg (N := 5) ?hd (cs := #[.int .i64 a2]) (t := 3) ?hr ?_; (case hd => rfl); (case hg => rfl); (case hr => exact z95_); intro gb350 hg w33 hbox hb; have BK350 := q_ (hbox); have GW350 := ge_ hg; have GE350 := ge_ hg; replace HB := hb_ hb; have NB348_350 := nl_ hg BK348; have NB350_348 := nr_ hg BK348; replace BK348 := rb_ BK348 hb; have NB349_350 := nl_ hg BK349; have NB350_349 := nr_ hg BK349; replace BK349 := rb_ BK349 hb; clear hb hbox hg; have hnb34 := NB348_349.out; have hnc34 := NB349_348.out; have hnb35 := NB348_350.out; have hnc35 := NB350_348.out; obtain ⟨hz_, hz_, hz_, hz_, hz_, hz_, hz_, hz_, hz_, hz_⟩ := cs5_ BK348.out) | ((with_reducible refine gate_callee (f := 51) rfl ?_); refine goesL_ (some 9) rfl rfl Try.func51 (by kernel_rfl) rfl #[.slice A0_1 l0_1.length c0_1] rfl z0_ ?_; (with_reducible refine (impl_MapOk.calls k _ _ l0_1 true _ ?side1 ?side2 A4.out).mono ?_); (case side1 => exact z94_); (case side2 => exact z117_); rintro e w37 ⟨rfl, hb⟩; refine ⟨_, rfl, ?_⟩; replace BK348 := rb_ BK348 hb; replace BK349 := rb_ BK349 hb; replace BK350 := rb_ BK350 hb; replace HB := hb_ hb; (try clear hb); (try clear hb2); (try clear hk); (try clear hi); obtain ⟨hz_, hz_, hz_, hz_, hz_, hz_, hz_, hz_, hz_, hz_⟩ := cs5_ BK348.out))
     (try simp only [Act.put, List.setIfInBounds_toArray, List.set_cons_zero, List.set_cons_succ])
     have H := HC30.out
     clear HC30
     replace H := kg_ H; rcases H with ⟨c39b0, H⟩ | ⟨c39b0, H⟩
     ·have c39b1 : decide (0 < l0_4.length) = true := decide_eq_true (by have := of_decide_eq_true c39b0; omega)
      (first | rw [c39b0] | rw [c39b1] | (simp only [i64_w, i32_w]; first | rw [c39b0] | rw [c39b1]) | rw [c39b2] | skip)
      obtain rfl := si_ H
      go_wp2
      go_ret
      exact ⟨z2_, cb_⟩
     ·have c39b1 : decide (0 < l0_4.length) = false := decide_eq_false (by have := of_decide_eq_false c39b0; omega)
      (first | rw [c39b0] | rw [c39b1] | (simp only [i64_w, i32_w]; first | rw [c39b0] | rw [c39b1]) | rw [c39b2] | skip)
      replace H := bi_ H; obtain ⟨t352, A40, H⟩ := H
      obtain rfl := si_ H
      have hnb41 := NB348_349.out
      have hnc41 := NB349_348.out
      have hnb42 := NB348_350.out
      have hnc42 := NB350_348.out
      obtain ⟨hz_, hz_, hz_, hz_, hz_, hz_, hz_, hz_, hz_, hz_⟩ := cs5_ BK348.out
      go_wp2_with (first | ((with_reducible refine gate_callee (f := 122) rfl ?_); refine goesL_ (some 38) rfl rfl Try.func122 (by kernel_rfl) rfl #[.slice A0_1 l0_1.length c0_1, .func (.func 123) #[] #[.pointer (some ⟨gb349, 0, none⟩), .pointer (some ⟨gb350, 0, none⟩)]] rfl z0_ ?_; (with_reducible refine (slices_ContainsFunc_Pair_123.calls k _ _ l0_1 gb349 gb350 a1 a2 t352 _ ?side1 ?side2 ?side3 ?side4 A40.out).mono ?_); (case side1 => exact z94_); (case side2 => exact z117_); (case side3 => (with_reducible repeat (first | refine blk_drewN ?_ _ | refine blk_drew ?_ | refine blk_alloc ?_ _)); exact BK349.out); (case side4 => (with_reducible repeat (first | refine blk_drewN ?_ _ | refine blk_drew ?_ | refine blk_alloc ?_ _)); exact BK350.out); rintro e w44 ⟨rfl, hb⟩; refine ⟨_, rfl, ?_⟩; replace BK349 := rb_ BK349 hb; replace BK350 := rb_ BK350 hb; replace HB := hb_ hb; (try clear hb); (try clear hb2); (try clear hk); (try clear hi)))
      go_ret
      exact ⟨z2_, cb_⟩
 ·obtain rfl := si_ H
  go_enter Try.func101, Try.ntmps101
  go_wp2_with (first | ((with_reducible refine gate_dst (N := 3) rfl ?_); (try (refine gate_guard (by rfl) ?_; dsimp only)); refine box_event ?hg (N := 3) ?hd (cs := #[.bool a0_0, .slice A0_1 l0_1.length c0_1, .slice A0_2 l0_2.length c0_2, .slice A0_3 l0_3.length c0_3, .slice A0_4 l0_4.length c0_4]) (t := 34) ?hr ?_; (case hd => rfl); (case hg => rfl); (case hr => exact z95_); intro gb348 hg w45 hbox hb; have BK348 := q_ (hbox); have GW348 := ge_ hg; have GE348 := ge_ hg; replace HB := hb_ hb; clear hb hbox hg) | ((with_reducible refine gate_dst (N := 4) rfl ?_); (try (refine gate_guard (by rfl) ?_; dsimp only)); refine box_event ?hg (N := 4) ?hd (cs := #[.int .i64 a1]) (t := 3) ?hr ?_; (case hd => rfl); (case hg => rfl); (case hr => exact z95_); intro gb349 hg w46 hbox hb; have BK349 := q_ (hbox); have GW349 := ge_ hg; have GE349 := ge_ hg; replace HB := hb_ hb; have NB348_349 := nl_ hg BK348; have NB349_348 := nr_ hg BK348; replace BK348 := rb_ BK348 hb; clear hb hbox hg) | ((with_reducible refine gate_dst (N := 5) rfl ?_); (try (refine gate_guard (by rfl) ?_; dsimp only)); refine box_event ?hg (N := 5) ?hd (cs := #[.int .i64 a2]) (t := 3) ?hr ?_; (case hd => rfl); (case hg => rfl); (case hr => exact z95_); intro gb350 hg w47 hbox hb; have BK350 := q_ (hbox); have GW350 := ge_ hg; have GE350 := ge_ hg; replace HB := hb_ hb; have NB348_350 := nl_ hg BK348; have NB350_348 := nr_ hg BK348; replace BK348 := rb_ BK348 hb; clear hb hbox hg; have hnb48 := NB348_350.out; have hnc48 := NB350_348.out; obtain ⟨hz_, hz_, hz_, hz_, hz_, hz_, hz_, hz_, hz_, hz_⟩ := cs5_ BK348.out) | ((with_reducible refine gate_callee (f := 51) rfl ?_); refine goesL_ (some 9) rfl rfl Try.func51 (by kernel_rfl) rfl #[.slice A0_1 l0_1.length c0_1] rfl z0_ ?_; (with_reducible refine (impl_MapOk.calls k _ _ l0_1 false _ ?side1 ?side2 A4.out).mono ?_); (case side1 => exact z94_); (case side2 => exact z117_); rintro e w50 ⟨rfl, hb⟩; refine ⟨_, rfl, ?_⟩; replace HB := hb_ hb; (try clear hb); (try clear hb2); (try clear hk); (try clear hi)))
  go_ret
  exact ⟨z2_, cb_⟩

end Go.Proofs.Ytfnndcpaldkkoaa.PFnExactTreeRange
