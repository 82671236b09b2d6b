-- Written by a program of this session, which goes by the kit's print. Not trusted: Lean checks it.
import Derived.Test.YtfnndcpaldkkoaaPFnExactTreeRangex0
import Derived.Test.YtfnndcpaldkkoaaPFnExactTreeRangex15
import Derived.Test.YtfnndcpaldkkoaaPFnExactTreeRangex16
namespace Go.Proofs.Ytfnndcpaldkkoaa.PFnExactTreeRange
open Go.RowKit Go.Proofs.YtfnndcpaldkkoaaW.PrintWords Go.Proofs.YtfnndcpaldkkoaaW.PrintLast Go.Proofs.YtfnndcpaldkkoaaW.PrintMore
attribute [local go_sem] Instr.field asAgg max2_int min2_int max_two min_two max_three min_three max_four min_four   -- for this text's walks alone
set_option linter.unusedVariables false
set_option linter.unusedSimpArgs false

/-! ### impl_treeMap: function 84 -/
mutual
def impl_treeMap.l0 : Nat → List (S92) → List (S34) → Int → Int → Bool → List (S92) → List Int → List (S34) → List (S72) → Option ((List (S92)))
 | 0, _, _, _, _, _, _, _, _, _ => none
 | k + 1, x3, x14, x15, x16, x415000, x415001, x415002, x415003, x415004 => if x16 < x15 then (if 0 ≤ x16 then (if x16 < (x14.length : Int) then ((impl_treeMap.f k ((rd_T34 x14 x16).f0) ((rd_T34 x14 x16).f1) ((rd_T34 x14 x16).f2) ((rd_T34 x14 x16).f3) ((rd_T34 x14 x16).f4)).bind fun t426 => (if x3.length + t426.length < 8796093022208 then (impl_treeMap.l0 k (x3 ++ t426) x14 x15 (wrap64 (x16 + 1)) x415000 x415001 x415002 x415003 x415004) else (none))) else (none)) else (none)) else ((impl_MapAll.f k x3 x415004).bind fun t432 => (some t432))
def impl_treeMap.f : Nat → Bool → List (S92) → List Int → List (S34) → List (S72) → Option ((List (S92)))
 | 0, _, _, _, _, _ => none
 | k + 1, a0_0, l0_1, l0_2, l0_3, l0_4 => if a0_0 = true then ((some (([] : List (S92)) : List (S92))).bind fun y415 => (if y415.length + l0_1.length < 8796093022208 then (some (y415 ++ l0_1)) else (none))) else (impl_treeMap.l0 k (([] : List (S92))) l0_3 (l0_3.length : Int) 0 a0_0 l0_1 l0_2 l0_3 l0_4)
end
theorem impl_treeMap.mono_l : ∀ k, (∀ y0 y1 y2 y3 y4, LeO (impl_treeMap.f k y0 y1 y2 y3 y4) (impl_treeMap.f (k + 1) y0 y1 y2 y3 y4)) ∧ (∀ y0 y1 y2 y3 y4 y5 y6 y7 y8, LeO (impl_treeMap.l0 k y0 y1 y2 y3 y4 y5 y6 y7 y8) (impl_treeMap.l0 (k + 1) y0 y1 y2 y3 y4 y5 y6 y7 y8))
 | 0 => ⟨fun _ _ _ _ _ r h => by simp [impl_treeMap.f] at h, fun _ _ _ _ _ _ _ _ _ r h => by simp [impl_treeMap.l0] at h⟩
 | k + 1 => by
  obtain ⟨ih0, ih1⟩ := impl_treeMap.mono_l k
  refine ⟨?_, ?_⟩
  ·intro y0 y1 y2 y3 y4
   unfold impl_treeMap.f
   have m0 := @impl_MapAll.mono
   exact zm_
  ·intro y0 y1 y2 y3 y4 y5 y6 y7 y8
   unfold impl_treeMap.l0
   have m0 := @impl_MapAll.mono
   exact zm_
theorem impl_treeMap.mono : ∀ a0 a1 a2 a3 a4 k, LeO (impl_treeMap.f k a0 a1 a2 a3 a4) (impl_treeMap.f (k + 1) a0 a1 a2 a3 a4) := by
 intro a0 a1 a2 a3 a4 k
 obtain ⟨ih0, ih1⟩ := impl_treeMap.mono_l k
 exact ih0 a0 a1 a2 a3 a4
set_option maxHeartbeats 8000000 in
set_option maxRecDepth 100000 in
theorem impl_treeMap.calls (k : Nat) : ∀ (a0_0 : Bool) (A0_1 : Option Addr) (c0_1 : Nat) (l0_1 : List (S92)) (A0_2 : Option Addr) (c0_2 : Nat) (l0_2 : List Int) (A0_3 : Option Addr) (c0_3 : Nat) (l0_3 : List (S34)) (A0_4 : Option Addr) (c0_4 : Nat) (l0_4 : List (S72)) (r : List (S92)) (w : World) (hr0_1 : Kd.C k92 w A0_1 l0_1.length l0_1) (hc0_1 : l0_1.length ≤ c0_1) (hr0_2 : Kd.C (Kd.int .i64) w A0_2 l0_2.length l0_2) (hc0_2 : l0_2.length ≤ c0_2) (hr0_3 : Kd.C k34 w A0_3 l0_3.length l0_3) (hc0_3 : l0_3.length ≤ c0_3) (hr0_4 : Kd.C k72 w A0_4 l0_4.length l0_4) (hc0_4 : l0_4.length ≤ c0_4) (h : impl_treeMap.f k a0_0 l0_1 l0_2 l0_3 l0_4 = some r),
  Calls Try.prog 84 #[.agg #[.bool a0_0, .slice A0_1 l0_1.length c0_1, .slice A0_2 l0_2.length c0_2, .slice A0_3 l0_3.length c0_3, .slice A0_4 l0_4.length c0_4]] w fun e w' => ∃ v0_ : Value, e = .returned (v0_) ∧ Kd.R k92 92 w' w.heap.size (fun _ => True) v0_ r ∧ Below w.heap.size w w' := by
 induction k using Nat.strongRecOn with
 | _ k ih =>
 intro a0_0 A0_1 c0_1 l0_1 A0_2 c0_2 l0_2 A0_3 c0_3 l0_3 A0_4 c0_4 l0_4 r w hr0_1 hc0_1 hr0_2 hc0_2 hr0_3 hc0_3 hr0_4 hc0_4 h
 cases k with
 | zero => exact absurd h (by simp [impl_treeMap.f])
 | succ k =>
 simp only [impl_treeMap.f] at h
 have hu34 := Try.underlying34
 have HR0_1 := q_ hr0_1
 have HC0_1 := q_ hc0_1
 clear hr0_1 hc0_1
 have HR0_2 := q_ hr0_2
 have HC0_2 := q_ hc0_2
 clear hr0_2 hc0_2
 have HR0_3 := q_ hr0_3
 have HC0_3 := q_ hc0_3
 clear hr0_3 hc0_3
 have HR0_4 := q_ hr0_4
 have HC0_4 := q_ hc0_4
 clear hr0_4 hc0_4
 have HB := q_ (Below.refl w.heap.size w)
 have H := h; clear h
 have HC2 := q_ H
 clear H
 go_enter Try.func84, Try.ntmps84
 go_upto_if 7 with (first | ((with_reducible refine gate_dst (N := 1) rfl ?_); refine box_event ?hg (N := 1) ?hd (cs := #[.bool a0_0, .slice A0_1 l0_1.length c0_1, .slice A0_2 l0_2.length c0_2, .slice A0_3 l0_3.length c0_3, .slice A0_4 l0_4.length c0_4]) (t := 34) ?hr ?_; (case hd => rfl); (case hg => rfl); (case hr => exact z95_); intro gb414 hg w3 hbox hb; have BK414 := q_ (hbox); have GW414 := ge_ hg; have GE414 := ge_ hg; replace HB := hb_ hb; clear hb hbox hg; obtain ⟨hz_, hz_, hz_, hz_, hz_, hz_, hz_, hz_, hz_, hz_⟩ := cs5_ BK414.out))
 (try simp only [Act.put, List.setIfInBounds_toArray, List.set_cons_zero, List.set_cons_succ])
 have H := HC2.out
 clear HC2
 replace H := kb_ H; rcases H with ⟨rfl, H⟩ | ⟨rfl, H⟩
 ·obtain ⟨y415, hy_⟩ : ∃ y_ : List (S92), y_ = (([] : List (S92))) := ⟨_, rfl⟩
  replace H : (if y415.length + l0_1.length < 8796093022208 then (some (y415 ++ l0_1)) else (none)) = some r := z3_
  have Ny415 := q_ hy_
  clear hy_
  replace H := kln_ H; obtain ⟨LMc6, H⟩ := H
  obtain ⟨y418, hy_⟩ : ∃ y_ : List (S92), y_ = (y415 ++ l0_1) := ⟨_, rfl⟩
  replace H : (some y418) = some r := z3_
  have Ny418 := q_ hy_
  clear hy_
  obtain rfl := si_ H
  go_wp2_with (first | ((with_reducible refine gate_dst (N := 8) rfl ?_); refine Kd.R_lit k92 _ 92 ?hg (N := 8) ?hd (xs := ([] : List (S92))) (inner := []) (ok := fun _ => True) (okp := fun _ => True) ?hr ?hp (fun _ hk => hk) trivial (Below.refl _ _) (Nat.le_refl _) (by simp) ?_; (case hd => rfl); (case hg => rfl); (case hr => exact z95_); (case hp => exact z128_); intro v416 w7 ho8 hb hg_ hnew_; clear hg_ hnew_; (first | rw [← Ny415.out] at ho8 | (simp only [Int.reduceToNat] at ho8; rw [← Ny415.out] at ho8)); have HO417 := q_ (Kd.R_lower ho8 (below_size cb_)); replace BK414 := rb_ BK414 hb; replace HB := hb_ hb; clear hb ho8; obtain ⟨hz_, hz_, hz_, hz_, hz_, hz_, hz_, hz_, hz_, hz_⟩ := cs5_ BK414.out) | ((with_reducible refine gate_builtin (b := .append) (xs := #[.tmp 8, .tmp 10]) rfl ?_); at_builtin; refine Kd.R_append_rows k92 (w0 := w) w.heap.size rfl (.tmp 8) (.tmp 10) 30 92 (.agg #[(.int .i64 0), (.int .i64 0)]) 16 rfl Try.underlying30 info92 rfl (by decide) (by omega) v416 y415 l0_1 _ _ _ (fun _ => True) (fun _ => False) rfl rfl ?aO ?aR (fun _ _ h => h) (fun _ h => h.elim) ?aF ?aB ?aS ?aL ?_; (case aR => exact z94_); (case aB => exact cb_); (case aF => exact z127_); (case aO => exact (by (with_reducible repeat (first | apply Kd.R_alloc | apply Kd.R_drewN | apply Kd.R_drew)); exact HO417.out)); (case aS => exact z125_); (case aL => have := LMc6.out; omega); intro v419 w10 ho hb hg hat; rw [← Ny418.out] at ho; replace HB := q_ (hb); have HO420 := q_ (ho); clear HO417; clear ho hb hg hat))
  go_ret
  exact ⟨_, z2_, by (with_reducible repeat (first | apply Kd.R_alloc | apply Kd.R_drewN | apply Kd.R_drew)); exact HO420.out, cb_⟩
 ·obtain ⟨y421, hy_⟩ : ∃ y_ : List (S92), y_ = (([] : List (S92))) := ⟨_, rfl⟩
  replace H : (impl_treeMap.l0 k y421 l0_3 (l0_3.length : Int) 0 false l0_1 l0_2 l0_3 l0_4) = some r := z3_
  have Ny421 := q_ hy_
  clear hy_
  have H' := q_ H
  clear H
  go_wp2_with (first | ((with_reducible refine gate_dst (N := 12) rfl ?_); refine Kd.R_lit k92 _ 92 ?hg (N := 12) ?hd (xs := ([] : List (S92))) (inner := []) (ok := fun _ => True) (okp := fun _ => True) ?hr ?hp (fun _ hk => hk) trivial (Below.refl _ _) (Nat.le_refl _) (by simp) ?_; (case hd => rfl); (case hg => rfl); (case hr => exact z95_); (case hp => exact z128_); intro v422 w11 ho12 hb hg_ hnew_; clear hg_ hnew_; (first | rw [← Ny421.out] at ho12 | (simp only [Int.reduceToNat] at ho12; rw [← Ny421.out] at ho12)); have HO423 := q_ (Kd.R_lower ho12 (below_size cb_)); replace BK414 := rb_ BK414 hb; replace HB := hb_ hb; clear hb ho12; obtain ⟨hz_, hz_, hz_, hz_, hz_, hz_, hz_, hz_, hz_, hz_⟩ := cs5_ BK414.out))
  go_loopg [3, 16] k (fun kq v3 v16 w' => ∃ (x3_1 : List (S92)) (x16_1 : Int), v16 = .int .i64 x16_1 ∧ Aside0 (impl_treeMap.l0 kq x3_1 l0_3 (l0_3.length : Int) x16_1 false l0_1 l0_2 l0_3 l0_4 = some r) ∧ Aside0 (kq ≤ k) ∧ Aside0 (Kd.R k92 92 w' w.heap.size (fun _ => True) v3 x3_1) ∧ Aside0 (w'.heap[gb414]? = some (.cells #[.bool false, (.slice A0_1 l0_1.length c0_1), (.slice A0_2 l0_2.length c0_2), (.slice A0_3 l0_3.length c0_3), (.slice A0_4 l0_4.length c0_4)] 34 (0, 0))) ∧ Aside0 (Below w.heap.size w w'))
  case atStart => exact ⟨(y421), (0), z4_, H', ⟨Nat.le_refl _⟩, ⟨by (with_reducible repeat (first | apply Kd.R_alloc | apply Kd.R_drewN | apply Kd.R_drew)); exact HO423.out⟩, ⟨z60_⟩, ⟨cb_⟩⟩
  case round =>
   clear H'
   try clear p2
   try clear c5
   try clear c6
   try clear c8
   repeat clear hz_
   obtain ⟨x3_1, x16_1, rfl, HA, HK1, HO_3, BK414, HB⟩ := hrel
   obtain ⟨k1, rfl, H⟩ := rn_ (k := gk) HA (by rintro rfl; simp only [impl_treeMap.l0])
   clear HA
   simp only [impl_treeMap.l0] at H
   replace H := kd_ H; rcases H with ⟨c14b0, H⟩ | ⟨c14b0, H⟩
   ·(first | rw [c14b0] | rw [c14b1] | (simp only [i64_w, i32_w]; first | rw [c14b0] | rw [c14b1]) | rw [c14b2] | skip)
    replace H := kdn_ H; obtain ⟨c15b0, H⟩ := H
    replace H := kdn_ H; obtain ⟨c16b0, H⟩ := H
    replace H := bi_ H; obtain ⟨t426, A17, H⟩ := H
    replace H := kln_ H; obtain ⟨LMc18, H⟩ := H
    obtain ⟨y429, hy_⟩ : ∃ y_ : List (S92), y_ = (x3_1 ++ t426) := ⟨_, rfl⟩
    replace H : (impl_treeMap.l0 k1 y429 l0_3 (l0_3.length : Int) (wrap64 (x16_1 + 1)) false l0_1 l0_2 l0_3 l0_4) = some r := z3_
    have Ny429 := q_ hy_
    clear hy_
    have H' := q_ H
    clear H
    have p424 : 0 ≤ (x16_1 : Int) := of_decide_eq_true z1_
    have q424 : x16_1 < (l0_3.length : Int) := of_decide_eq_true z1_
    obtain ⟨ad424, A424_1, c424_1, A424_2, c424_2, A424_3, c424_3, A424_4, c424_4, e424, hx424_0, hx424_1, hx424_2, hx424_3, hx424_4, hl424_1, hi424_1, hl424_2, hi424_2, hl424_3, hi424_3, hl424_4, hi424_4⟩ := at_T34 HR0_3.out x16_1 p424 q424
    cases e424
    replace hx424_0 := up_ HB hx424_0
    replace hx424_1 := up_ HB hx424_1
    replace hx424_2 := up_ HB hx424_2
    replace hx424_3 := up_ HB hx424_3
    replace hx424_4 := up_ HB hx424_4
    have HR424_1 := q_ hi424_1
    have HC424_1 := q_ hl424_1
    clear hi424_1 hl424_1
    have HR424_2 := q_ hi424_2
    have HC424_2 := q_ hl424_2
    clear hi424_2 hl424_2
    have HR424_3 := q_ hi424_3
    have HC424_3 := q_ hl424_3
    clear hi424_3 hl424_3
    have HR424_4 := q_ hi424_4
    have HC424_4 := q_ hl424_4
    clear hi424_4 hl424_4
    replace p424 := eq_true p424
    replace q424 := eq_true q424
    go_wp2_with (first | ((with_reducible refine gate_dst (N := 5) rfl ?_); refine box_event ?hg (N := 5) ?hd (cs := #[.bool false, .slice none 0 0, .slice none 0 0, .slice none 0 0, .slice none 0 0]) (t := 34) ?hr ?_; (case hd => rfl); (case hg => rfl); (case hr => exact z95_); intro gb425 hg w19 hbox hb; replace HO_3 := q_ (Kd.R_below z8_ hb); have BK425 := q_ (hbox); have GW425 := ge_ hg; have GE425 := ge_ hg; replace HB := hb_ hb; have NB414_425 := nl_ hg BK414; have NB425_414 := nr_ hg BK414; replace BK414 := rb_ BK414 hb; clear hb hbox hg; have hnb20 := NB425_414.out; have hnc20 := NB414_425.out; obtain ⟨hz_, hz_, hz_, hz_, hz_, hz_, hz_, hz_, hz_, hz_⟩ := cs5_ BK425.out) | ((with_reducible refine gate_callee (f := 84) rfl ?_); refine goesL_ (some 22) rfl rfl Try.func84 (by kernel_rfl) rfl #[.agg #[.bool ((rd_T34 l0_3 x16_1).f0), .slice A424_1 ((rd_T34 l0_3 x16_1).f1).length c424_1, .slice A424_2 ((rd_T34 l0_3 x16_1).f2).length c424_2, .slice A424_3 ((rd_T34 l0_3 x16_1).f3).length c424_3, .slice A424_4 ((rd_T34 l0_3 x16_1).f4).length c424_4]] rfl z0_ ?_; (with_reducible refine (ih k1 z25_ ((rd_T34 l0_3 x16_1).f0) _ _ ((rd_T34 l0_3 x16_1).f1) _ _ ((rd_T34 l0_3 x16_1).f2) _ _ ((rd_T34 l0_3 x16_1).f3) _ _ ((rd_T34 l0_3 x16_1).f4) t426 _ ?side1 ?side2 ?side3 ?side4 ?side5 ?side6 ?side7 ?side8 A17.out).mono ?_); (case side1 => exact Kd.C_below HR424_1.out cb_); (case side2 => exact HC424_1.out); (case side3 => exact Kd.C_below HR424_2.out cb_); (case side4 => exact HC424_2.out); (case side5 => exact Kd.C_below HR424_3.out cb_); (case side6 => exact HC424_3.out); (case side7 => exact Kd.C_below HR424_4.out cb_); (case side8 => exact HC424_4.out); rintro e w22 ⟨v427, rfl, ho0, hb⟩; refine ⟨_, rfl, ?_⟩; have HO428 := q_ (Kd.R_lower (Kd.R_new' ho0 (Kd.R_lt (by (with_reducible repeat (first | apply Kd.R_alloc | apply Kd.R_drewN | apply Kd.R_drew)); exact (Kd.R_mono (Kd.R_far (p := ⟨gb425, 4, none⟩) (Kd.R_far (p := ⟨gb425, 3, none⟩) (Kd.R_far (p := ⟨gb425, 2, none⟩) (Kd.R_far (p := ⟨gb425, 1, none⟩) (Kd.R_far (p := ⟨gb425, 0, none⟩) (Kd.R_types HO_3.out BK425.out (by decide)) (fun _ hk => hk.2) (.bool ((rd_T34 l0_3 x16_1).f0))) (fun _ hk => hk.2) (.slice A424_1 ((rd_T34 l0_3 x16_1).f1).length c424_1)) (fun _ hk => hk.2) (.slice A424_2 ((rd_T34 l0_3 x16_1).f2).length c424_2)) (fun _ hk => hk.2) (.slice A424_3 ((rd_T34 l0_3 x16_1).f3).length c424_3)) (fun _ hk => hk.2) (.slice A424_4 ((rd_T34 l0_3 x16_1).f4).length c424_4)) (fun _ h_ => h_.1))))) (below_size cb_)); replace HO_3 := q_ (Kd.R_elder' (by (with_reducible repeat (first | apply Kd.R_alloc | apply Kd.R_drewN | apply Kd.R_drew)); exact (Kd.R_mono (Kd.R_far (p := ⟨gb425, 4, none⟩) (Kd.R_far (p := ⟨gb425, 3, none⟩) (Kd.R_far (p := ⟨gb425, 2, none⟩) (Kd.R_far (p := ⟨gb425, 1, none⟩) (Kd.R_far (p := ⟨gb425, 0, none⟩) (Kd.R_types HO_3.out BK425.out (by decide)) (fun _ hk => hk.2) (.bool ((rd_T34 l0_3 x16_1).f0))) (fun _ hk => hk.2) (.slice A424_1 ((rd_T34 l0_3 x16_1).f1).length c424_1)) (fun _ hk => hk.2) (.slice A424_2 ((rd_T34 l0_3 x16_1).f2).length c424_2)) (fun _ hk => hk.2) (.slice A424_3 ((rd_T34 l0_3 x16_1).f3).length c424_3)) (fun _ hk => hk.2) (.slice A424_4 ((rd_T34 l0_3 x16_1).f4).length c424_4)) (fun _ h_ => h_.1))) (Kd.R_base ho0) hb); replace BK414 := q_ (blk_below (g := gb414) (o := .cells #[.bool false, .slice A0_1 l0_1.length c0_1, .slice A0_2 l0_2.length c0_2, .slice (some ad424) l0_3.length c0_3, .slice A0_4 l0_4.length c0_4] 34 (0, 0)) (by (with_reducible repeat (first | refine blk_drewN ?_ _ | refine blk_drew ?_ | refine blk_alloc ?_ _)); refine blk_far ?_ NB414_425.out _; (with_reducible repeat (first | refine blk_drewN ?_ _ | refine blk_drew ?_ | refine blk_alloc ?_ _)); refine blk_far ?_ NB414_425.out _; (with_reducible repeat (first | refine blk_drewN ?_ _ | refine blk_drew ?_ | refine blk_alloc ?_ _)); refine blk_far ?_ NB414_425.out _; (with_reducible repeat (first | refine blk_drewN ?_ _ | refine blk_drew ?_ | refine blk_alloc ?_ _)); refine blk_far ?_ NB414_425.out _; (with_reducible repeat (first | refine blk_drewN ?_ _ | refine blk_drew ?_ | refine blk_alloc ?_ _)); refine blk_far ?_ NB414_425.out _; (with_reducible repeat (first | refine blk_drewN ?_ _ | refine blk_drew ?_ | refine blk_alloc ?_ _)); exact BK414.out) hb); replace BK425 := q_ (blk_below (g := gb425) (o := .cells #[.bool ((rd_T34 l0_3 x16_1).f0), .slice A424_1 ((rd_T34 l0_3 x16_1).f1).length c424_1, .slice A424_2 ((rd_T34 l0_3 x16_1).f2).length c424_2, .slice A424_3 ((rd_T34 l0_3 x16_1).f3).length c424_3, .slice A424_4 ((rd_T34 l0_3 x16_1).f4).length c424_4] 34 (0, 0)) (by (with_reducible repeat (first | refine blk_drewN ?_ _ | refine blk_drew ?_ | refine blk_alloc ?_ _)); refine blk_put (cs := #[.bool ((rd_T34 l0_3 x16_1).f0), .slice A424_1 ((rd_T34 l0_3 x16_1).f1).length c424_1, .slice A424_2 ((rd_T34 l0_3 x16_1).f2).length c424_2, .slice A424_3 ((rd_T34 l0_3 x16_1).f3).length c424_3, .slice none 0 0]) ?_ 4 _ rfl; (with_reducible repeat (first | refine blk_drewN ?_ _ | refine blk_drew ?_ | refine blk_alloc ?_ _)); refine blk_put (cs := #[.bool ((rd_T34 l0_3 x16_1).f0), .slice A424_1 ((rd_T34 l0_3 x16_1).f1).length c424_1, .slice A424_2 ((rd_T34 l0_3 x16_1).f2).length c424_2, .slice none 0 0, .slice none 0 0]) ?_ 3 _ rfl; (with_reducible repeat (first | refine blk_drewN ?_ _ | refine blk_drew ?_ | refine blk_alloc ?_ _)); refine blk_put (cs := #[.bool ((rd_T34 l0_3 x16_1).f0), .slice A424_1 ((rd_T34 l0_3 x16_1).f1).length c424_1, .slice none 0 0, .slice none 0 0, .slice none 0 0]) ?_ 2 _ rfl; (with_reducible repeat (first | refine blk_drewN ?_ _ | refine blk_drew ?_ | refine blk_alloc ?_ _)); refine blk_put (cs := #[.bool ((rd_T34 l0_3 x16_1).f0), .slice none 0 0, .slice none 0 0, .slice none 0 0, .slice none 0 0]) ?_ 1 _ rfl; (with_reducible repeat (first | refine blk_drewN ?_ _ | refine blk_drew ?_ | refine blk_alloc ?_ _)); refine blk_put (cs := #[.bool false, .slice none 0 0, .slice none 0 0, .slice none 0 0, .slice none 0 0]) ?_ 0 _ rfl; (with_reducible repeat (first | refine blk_drewN ?_ _ | refine blk_drew ?_ | refine blk_alloc ?_ _)); exact BK425.out) hb); replace HB := hb_ hb; (try clear hb); (try clear hb2); (try clear hk); (try clear hi); (try clear ho0); obtain ⟨Ao24, co24, eo24⟩ := Kd.R_slice HO428.out; subst eo24) | ((with_reducible refine gate_builtin (b := .append) (xs := #[.tmp 20, .tmp 22]) rfl ?_); at_builtin; refine Kd.R_append_rows k92 (w0 := w) w.heap.size rfl (.tmp 20) (.tmp 22) 30 92 (.agg #[(.int .i64 0), (.int .i64 0)]) 16 rfl Try.underlying30 info92 rfl (by decide) (by omega) u3 x3_1 t426 _ _ _ (fun k_ => some k_ ≠ (.slice Ao24 t426.length co24 : Value).ownBlock) (fun _ => False) rfl rfl ?aO ?aR (fun _ _ h => h) (fun _ h => h.elim) ?aF ?aB ?aS ?aL ?_; (case aR => repeat (first | exact (Kd.R_reads' HO428.out).2.2 | (with_reducible refine Kd.C_alloc ?_ _) | (with_reducible refine Kd.C_drewN ?_ _) | (with_reducible refine Kd.C_drew ?_))); (case aB => exact cb_); (case aF => exact (fun k_ hk => Kd.fresh' (Kd.R_lt z72_) k_ hk)); (case aO => exact z66_); (case aS => exact z125_); (case aL => have := LMc18.out; omega); intro v430 w23 ho hb hg hat; rw [← Ny429.out] at ho; replace BK414 := q_ (blk_grown (g := gb414) (o := .cells #[.bool false, .slice A0_1 l0_1.length c0_1, .slice A0_2 l0_2.length c0_2, .slice (some ad424) l0_3.length c0_3, .slice A0_4 l0_4.length c0_4] 34 (0, 0)) z60_ hg (Kd.R_ne HO_3.out BK414.out (by decide))); replace BK425 := q_ (blk_grown (g := gb425) (o := .cells #[.bool ((rd_T34 l0_3 x16_1).f0), .slice A424_1 ((rd_T34 l0_3 x16_1).f1).length c424_1, .slice A424_2 ((rd_T34 l0_3 x16_1).f2).length c424_2, .slice A424_3 ((rd_T34 l0_3 x16_1).f3).length c424_3, .slice A424_4 ((rd_T34 l0_3 x16_1).f4).length c424_4] 34 (0, 0)) (by (with_reducible repeat (first | refine blk_drewN ?_ _ | refine blk_drew ?_ | refine blk_alloc ?_ _)); exact BK425.out) hg (Kd.R_ne HO_3.out BK425.out (by decide))); replace HO428 := q_ (Kd.R_after (ok := (fun _ => True)) z72_ hg hat); replace HB := q_ (hb); have HO431 := q_ (ho); clear HO_3; clear ho hb hg hat))
    go_roundg k1
    case measure => have := HK1.out; omega
    case rel => exact ⟨(y429), (wrap64 (x16_1 + 1)), z4_, H', ⟨z25_⟩, ⟨by (with_reducible repeat (first | apply Kd.R_alloc | apply Kd.R_drewN | apply Kd.R_drew)); exact Kd.R_mono HO431.out (fun _ hk => trivial)⟩, ⟨z60_⟩, ⟨cb_⟩⟩
   ·(first | rw [c14b0] | rw [c14b1] | (simp only [i64_w, i32_w]; first | rw [c14b0] | rw [c14b1]) | rw [c14b2] | skip)
    replace H := bi_ H; obtain ⟨t432, A25, H⟩ := H
    obtain rfl := si_ H
    obtain ⟨hz_, hz_, hz_, hz_, hz_, hz_, hz_, hz_, hz_, hz_⟩ := cs5_ BK414.out
    obtain ⟨Ao27, co27, eo27⟩ := Kd.R_slice HO_3.out
    subst eo27
    go_wp2_with (first | ((with_reducible refine gate_callee (f := 82) rfl ?_); refine goesL_ (some 28) rfl rfl Try.func82 (by kernel_rfl) rfl #[.slice Ao27 x3_1.length co27, .slice A0_4 l0_4.length c0_4] rfl z0_ ?_; (with_reducible refine (impl_MapAll.calls k1 _ _ x3_1 _ _ l0_4 t432 _ ?side1 ?side2 ?side3 ?side4 A25.out).mono ?_); (case side1 => exact z124_); (case side2 => exact (Kd.R_reads' HO_3.out).2.1); (case side3 => exact z96_); (case side4 => exact z122_); rintro e w28 ⟨v433, rfl, ho0, hb⟩; refine ⟨_, rfl, ?_⟩; have HO434 := q_ (Kd.R_lower (Kd.R_new' ho0 (Kd.R_lt z8_)) (below_size cb_)); replace HO_3 := q_ (Kd.R_elder' z8_ (Kd.R_base ho0) hb); replace HB := hb_ hb; (try clear hb); (try clear hb2); (try clear hk); (try clear hi); (try clear ho0)))
    go_ret
    exact ⟨_, z2_, by (with_reducible repeat (first | apply Kd.R_alloc | apply Kd.R_drewN | apply Kd.R_drew)); exact Kd.R_mono HO434.out (fun _ hk => trivial), cb_⟩

/-! ### impl_TreeMap: function 37 -/
def impl_TreeMap.f (k : Nat) (a0_0 : Bool) (l0_1 : List (S92)) (l0_2 : List Int) (l0_3 : List (S34)) (l0_4 : List (S72)) : Option ((List (S92))) := (impl_TreeOk.f k a0_0 l0_1 l0_2 l0_3 l0_4).bind fun t436 => (if t436 = true then ((impl_treeMap.f k a0_0 l0_1 l0_2 l0_3 l0_4).bind fun t437 => (some t437)) else (some ([] : List (S92))))
theorem impl_TreeMap.mono : ∀ a0 a1 a2 a3 a4 k, LeO (impl_TreeMap.f k a0 a1 a2 a3 a4) (impl_TreeMap.f (k + 1) a0 a1 a2 a3 a4) := by
 intro a0 a1 a2 a3 a4 k
 unfold impl_TreeMap.f
 have m0 := @impl_TreeOk.mono
 have m1 := @impl_treeMap.mono
 exact zm_
set_option maxHeartbeats 8000000 in
set_option maxRecDepth 100000 in
theorem impl_TreeMap.calls (k : Nat) (a0_0 : Bool) (A0_1 : Option Addr) (c0_1 : Nat) (l0_1 : List (S92)) (A0_2 : Option Addr) (c0_2 : Nat) (l0_2 : List Int) (A0_3 : Option Addr) (c0_3 : Nat) (l0_3 : List (S34)) (A0_4 : Option Addr) (c0_4 : Nat) (l0_4 : List (S72)) (r : List (S92)) (w : World) (hr0_1 : Kd.C k92 w A0_1 l0_1.length l0_1) (hc0_1 : l0_1.length ≤ c0_1) (hr0_2 : Kd.C (Kd.int .i64) w A0_2 l0_2.length l0_2) (hc0_2 : l0_2.length ≤ c0_2) (hr0_3 : Kd.C k34 w A0_3 l0_3.length l0_3) (hc0_3 : l0_3.length ≤ c0_3) (hr0_4 : Kd.C k72 w A0_4 l0_4.length l0_4) (hc0_4 : l0_4.length ≤ c0_4) (h : impl_TreeMap.f k a0_0 l0_1 l0_2 l0_3 l0_4 = some r) :
  Calls Try.prog 37 #[.agg #[.bool a0_0, .slice A0_1 l0_1.length c0_1, .slice A0_2 l0_2.length c0_2, .slice A0_3 l0_3.length c0_3, .slice A0_4 l0_4.length c0_4]] w fun e w' => ∃ v0_ : Value, e = .returned (v0_) ∧ Kd.R k92 92 w' w.heap.size (fun _ => True) v0_ r ∧ Below w.heap.size w w' := by
 have hu34 := Try.underlying34
 have HR0_1 := q_ hr0_1
 have HC0_1 := q_ hc0_1
 clear hr0_1 hc0_1
 have HR0_2 := q_ hr0_2
 have HC0_2 := q_ hc0_2
 clear hr0_2 hc0_2
 have HR0_3 := q_ hr0_3
 have HC0_3 := q_ hc0_3
 clear hr0_3 hc0_3
 have HR0_4 := q_ hr0_4
 have HC0_4 := q_ hc0_4
 clear hr0_4 hc0_4
 have HB := q_ (Below.refl w.heap.size w)
 have H := h; clear h
 unfold impl_TreeMap.f at H
 replace H := bi_ H; obtain ⟨t436, A2, H⟩ := H
 have HC3 := q_ H
 clear H
 go_enter Try.func37, Try.ntmps37
 go_upto_if 5 with (first | ((with_reducible refine gate_dst (N := 1) rfl ?_); refine box_event ?hg (N := 1) ?hd (cs := #[.bool a0_0, .slice A0_1 l0_1.length c0_1, .slice A0_2 l0_2.length c0_2, .slice A0_3 l0_3.length c0_3, .slice A0_4 l0_4.length c0_4]) (t := 34) ?hr ?_; (case hd => rfl); (case hg => rfl); (case hr => exact z95_); intro gb435 hg w4 hbox hb; have BK435 := q_ (hbox); have GW435 := ge_ hg; have GE435 := ge_ hg; replace HB := hb_ hb; clear hb hbox hg; obtain ⟨hz_, hz_, hz_, hz_, hz_, hz_, hz_, hz_, hz_, hz_⟩ := cs5_ BK435.out) | ((with_reducible refine gate_callee (f := 21) rfl ?_); refine goesL_ (some 4) rfl rfl Try.func21 (by kernel_rfl) rfl #[.agg #[.bool a0_0, .slice A0_1 l0_1.length c0_1, .slice A0_2 l0_2.length c0_2, .slice A0_3 l0_3.length c0_3, .slice A0_4 l0_4.length c0_4]] rfl z0_ ?_; (with_reducible refine (impl_TreeOk.calls k a0_0 _ _ l0_1 _ _ l0_2 _ _ l0_3 _ _ l0_4 t436 _ ?side1 ?side2 ?side3 ?side4 ?side5 ?side6 ?side7 ?side8 A2.out).mono ?_); (case side1 => exact z94_); (case side2 => exact z117_); (case side3 => exact z97_); (case side4 => exact HC0_2.out); (case side5 => exact z98_); (case side6 => exact HC0_3.out); (case side7 => exact z96_); (case side8 => exact z122_); rintro e w6 ⟨rfl, hb⟩; refine ⟨_, rfl, ?_⟩; replace BK435 := rb_ BK435 hb; replace HB := hb_ hb; (try clear hb); (try clear hb2); (try clear hk); (try clear hi)))
 (try simp only [Act.put, List.setIfInBounds_toArray, List.set_cons_zero, List.set_cons_succ])
 have H := HC3.out
 clear HC3
 replace H := kb_ H; rcases H with ⟨rfl, H⟩ | ⟨rfl, H⟩
 ·replace H := bi_ H; obtain ⟨t437, A8, H⟩ := H
  obtain rfl := si_ H
  obtain ⟨hz_, hz_, hz_, hz_, hz_, hz_, hz_, hz_, hz_, hz_⟩ := cs5_ BK435.out
  go_wp2_with (first | ((with_reducible refine gate_callee (f := 84) rfl ?_); refine goesL_ (some 7) rfl rfl Try.func84 (by kernel_rfl) rfl #[.agg #[.bool a0_0, .slice A0_1 l0_1.length c0_1, .slice A0_2 l0_2.length c0_2, .slice A0_3 l0_3.length c0_3, .slice A0_4 l0_4.length c0_4]] rfl z0_ ?_; (with_reducible refine (impl_treeMap.calls k a0_0 _ _ l0_1 _ _ l0_2 _ _ l0_3 _ _ l0_4 t437 _ ?side1 ?side2 ?side3 ?side4 ?side5 ?side6 ?side7 ?side8 A8.out).mono ?_); (case side1 => exact z94_); (case side2 => exact z117_); (case side3 => exact z97_); (case side4 => exact HC0_2.out); (case side5 => exact z98_); (case side6 => exact HC0_3.out); (case side7 => exact z96_); (case side8 => exact z122_); rintro e w10 ⟨v438, rfl, ho0, hb⟩; refine ⟨_, rfl, ?_⟩; have HO439 := q_ (Kd.R_lower ho0 (below_size cb_)); replace HB := hb_ hb; (try clear hb); (try clear hb2); (try clear hk); (try clear hi); (try clear ho0)))
  go_ret
  exact ⟨_, z2_, by (with_reducible repeat (first | apply Kd.R_alloc | apply Kd.R_drewN | apply Kd.R_drew)); exact HO439.out, cb_⟩
 ·obtain rfl := si_ H
  go_wp2
  go_ret
  exact ⟨_, z2_, by first | exact Kd.R_nil _ _ _ _ _ | exact Kd.N_nil _ _ _ _ _ | exact Kd.V_nil _ _ _ _ _ | exact Kd.Q_nil _ _ _ _ _ | exact Kd.S_nil _ _ _ _ _, cb_⟩

/-! ### impl_TreeRange: function 42 -/
def impl_TreeRange.l0 : Nat → Int → Int → List (S92) → List (S92) → Int → Int → Option ((List (S92)))
 | 0, _, _, _, _, _, _ => none
 | k + 1, x1, x2, x7, x12, x13, x14 => if x14 < x13 then (if 0 ≤ x14 then (if x14 < (x12.length : Int) then (if ((rd_T92 x12 x14).f0) ≥ x1 then (if ((rd_T92 x12 x14).f0) < x2 then (if x7.length < 8796093022208 then (impl_TreeRange.l0 k x1 x2 (x7 ++ [(⟨(rd_T92 x12 x14).f0, (rd_T92 x12 x14).f1⟩ : S92)]) x12 x13 (wrap64 (x14 + 1))) else (none)) else (impl_TreeRange.l0 k x1 x2 x7 x12 x13 (wrap64 (x14 + 1)))) else (impl_TreeRange.l0 k x1 x2 x7 x12 x13 (wrap64 (x14 + 1)))) else (none)) else (none)) else (some x7)
def impl_TreeRange.f (k : Nat) (a0_0 : Bool) (l0_1 : List (S92)) (l0_2 : List Int) (l0_3 : List (S34)) (l0_4 : List (S72)) (a1 : Int) (a2 : Int) : Option ((List (S92))) := (impl_TreeMap.f k a0_0 l0_1 l0_2 l0_3 l0_4).bind fun t444 => (impl_TreeRange.l0 k a1 a2 (([] : List (S92))) t444 (t444.length : Int) 0)
theorem impl_TreeRange.mono_l : ∀ k, (∀ y0 y1 y2 y3 y4 y5, LeO (impl_TreeRange.l0 k y0 y1 y2 y3 y4 y5) (impl_TreeRange.l0 (k + 1) y0 y1 y2 y3 y4 y5))
 | 0 => fun _ _ _ _ _ _ r h => by simp [impl_TreeRange.l0] at h
 | k + 1 => by
  have ih0 := impl_TreeRange.mono_l k
  ·intro y0 y1 y2 y3 y4 y5
   unfold impl_TreeRange.l0
   have m0 := @impl_TreeMap.mono
   exact zm_
theorem impl_TreeRange.mono : ∀ a0 a1 a2 a3 a4 a5 a6 k, LeO (impl_TreeRange.f k a0 a1 a2 a3 a4 a5 a6) (impl_TreeRange.f (k + 1) a0 a1 a2 a3 a4 a5 a6) := by
 intro a0 a1 a2 a3 a4 a5 a6 k
 have ih0 := impl_TreeRange.mono_l k
 unfold impl_TreeRange.f
 have m0 := @impl_TreeMap.mono
 exact zm_
set_option maxHeartbeats 8000000 in
set_option maxRecDepth 100000 in
theorem impl_TreeRange.calls (k : Nat) (a0_0 : Bool) (A0_1 : Option Addr) (c0_1 : Nat) (l0_1 : List (S92)) (A0_2 : Option Addr) (c0_2 : Nat) (l0_2 : List Int) (A0_3 : Option Addr) (c0_3 : Nat) (l0_3 : List (S34)) (A0_4 : Option Addr) (c0_4 : Nat) (l0_4 : List (S72)) (a1 : Int) (a2 : Int) (r : List (S92)) (w : World) (hr0_1 : Kd.C k92 w A0_1 l0_1.length l0_1) (hc0_1 : l0_1.length ≤ c0_1) (hr0_2 : Kd.C (Kd.int .i64) w A0_2 l0_2.length l0_2) (hc0_2 : l0_2.length ≤ c0_2) (hr0_3 : Kd.C k34 w A0_3 l0_3.length l0_3) (hc0_3 : l0_3.length ≤ c0_3) (hr0_4 : Kd.C k72 w A0_4 l0_4.length l0_4) (hc0_4 : l0_4.length ≤ c0_4) (h : impl_TreeRange.f k a0_0 l0_1 l0_2 l0_3 l0_4 a1 a2 = some r) :
  Calls Try.prog 42 #[.agg #[.bool a0_0, .slice A0_1 l0_1.length c0_1, .slice A0_2 l0_2.length c0_2, .slice A0_3 l0_3.length c0_3, .slice A0_4 l0_4.length c0_4], .int .i64 a1, .int .i64 a2] w fun e w' => ∃ v0_ : Value, e = .returned (v0_) ∧ Kd.R k92 92 w' w.heap.size (fun _ => True) v0_ r ∧ Below w.heap.size w w' := by
 have hu34 := Try.underlying34
 have hu92 := Try.underlying92
 have HR0_1 := q_ hr0_1
 have HC0_1 := q_ hc0_1
 clear hr0_1 hc0_1
 have HR0_2 := q_ hr0_2
 have HC0_2 := q_ hc0_2
 clear hr0_2 hc0_2
 have HR0_3 := q_ hr0_3
 have HC0_3 := q_ hc0_3
 clear hr0_3 hc0_3
 have HR0_4 := q_ hr0_4
 have HC0_4 := q_ hc0_4
 clear hr0_4 hc0_4
 have HB := q_ (Below.refl w.heap.size w)
 have H := h; clear h
 unfold impl_TreeRange.f at H
 obtain ⟨y441, hy_⟩ : ∃ y_ : List (S92), y_ = (([] : List (S92))) := ⟨_, rfl⟩
 replace H : ((impl_TreeMap.f k a0_0 l0_1 l0_2 l0_3 l0_4).bind fun t444 => (impl_TreeRange.l0 k a1 a2 y441 t444 (t444.length : Int) 0)) = some r := z3_
 have Ny441 := q_ hy_
 clear hy_
 replace H := bi_ H; obtain ⟨t444, A4, H⟩ := H
 have H' := q_ H
 clear H
 go_enter Try.func42, Try.ntmps42
 go_wp2_with (first | ((with_reducible refine gate_dst (N := 3) rfl ?_); refine box_event ?hg (N := 3) ?hd (cs := #[.bool a0_0, .slice A0_1 l0_1.length c0_1, .slice A0_2 l0_2.length c0_2, .slice A0_3 l0_3.length c0_3, .slice A0_4 l0_4.length c0_4]) (t := 34) ?hr ?_; (case hd => rfl); (case hg => rfl); (case hr => exact z95_); intro gb440 hg w5 hbox hb; have BK440 := q_ (hbox); have GW440 := ge_ hg; have GE440 := ge_ hg; replace HB := hb_ hb; clear hb hbox hg) | ((with_reducible refine gate_dst (N := 10) rfl ?_); refine Kd.R_lit k92 _ 92 ?hg (N := 10) ?hd (xs := ([] : List (S92))) (inner := []) (ok := fun _ => True) (okp := fun _ => True) ?hr ?hp (fun _ hk => hk) trivial (Below.refl _ _) (Nat.le_refl _) (by simp) ?_; (case hd => rfl); (case hg => rfl); (case hr => exact z95_); (case hp => exact z128_); intro v442 w6 ho7 hb hg_ hnew_; clear hg_ hnew_; (first | rw [← Ny441.out] at ho7 | (simp only [Int.reduceToNat] at ho7; rw [← Ny441.out] at ho7)); have HO443 := q_ (Kd.R_lower ho7 (below_size cb_)); replace BK440 := rb_ BK440 hb; replace HB := hb_ hb; clear hb ho7; obtain ⟨hz_, hz_, hz_, hz_, hz_, hz_, hz_, hz_, hz_, hz_⟩ := cs5_ BK440.out) | ((with_reducible refine gate_callee (f := 37) rfl ?_); refine goesL_ (some 12) rfl rfl Try.func37 (by kernel_rfl) rfl #[.agg #[.bool a0_0, .slice A0_1 l0_1.length c0_1, .slice A0_2 l0_2.length c0_2, .slice A0_3 l0_3.length c0_3, .slice A0_4 l0_4.length c0_4]] rfl z0_ ?_; (with_reducible refine (impl_TreeMap.calls k a0_0 _ _ l0_1 _ _ l0_2 _ _ l0_3 _ _ l0_4 t444 _ ?side1 ?side2 ?side3 ?side4 ?side5 ?side6 ?side7 ?side8 A4.out).mono ?_); (case side1 => exact z94_); (case side2 => exact z117_); (case side3 => exact z97_); (case side4 => exact HC0_2.out); (case side5 => exact z98_); (case side6 => exact HC0_3.out); (case side7 => exact z96_); (case side8 => exact z122_); rintro e w9 ⟨v445, rfl, ho0, hb⟩; refine ⟨_, rfl, ?_⟩; have HO446 := q_ (Kd.R_lower (Kd.R_new' ho0 (Kd.R_lt z73_)) (below_size cb_)); replace HO443 := q_ (Kd.R_elder' z73_ (Kd.R_base ho0) hb); replace HB := hb_ hb; (try clear hb); (try clear hb2); (try clear hk); (try clear hi); (try clear ho0); obtain ⟨Ao10, co10, eo10⟩ := Kd.R_slice HO446.out; subst eo10))
 go_loopg [7, 14] k (fun kq v7 v14 w' => ∃ (x7_1 : List (S92)) (x14_1 : Int), v14 = .int .i64 x14_1 ∧ Aside0 (impl_TreeRange.l0 kq a1 a2 x7_1 t444 (t444.length : Int) x14_1 = some r) ∧ Aside0 (kq ≤ k) ∧ Aside0 (Kd.R k92 92 w' w.heap.size (fun k_ => some k_ ≠ ((.slice Ao10 t444.length co10) : Value).ownBlock) v7 x7_1) ∧ Aside0 (Kd.R k92 92 w' w.heap.size (fun k_ => some k_ ≠ (v7 : Value).ownBlock) (.slice Ao10 t444.length co10) t444) ∧ Aside0 (Below w.heap.size w w'))
 case atStart => exact ⟨(y441), (0), z4_, H', ⟨Nat.le_refl _⟩, ⟨by (with_reducible repeat (first | apply Kd.R_alloc | apply Kd.R_drewN | apply Kd.R_drew)); exact Kd.R_mono HO443.out (fun _ hk => hk.2)⟩, ⟨by (with_reducible repeat (first | apply Kd.R_alloc | apply Kd.R_drewN | apply Kd.R_drew)); exact Kd.R_mono HO446.out (fun _ hk => hk.2)⟩, ⟨cb_⟩⟩
 case round =>
  clear H'
  try clear p2
  try clear c3
  try clear c4
  repeat clear hz_
  obtain ⟨x7_1, x14_1, rfl, HA, HK1, HO_7, HO_12, HB⟩ := hrel
  obtain ⟨k1, rfl, H⟩ := rn_ (k := gk) HA (by rintro rfl; simp only [impl_TreeRange.l0])
  clear HA
  simp only [impl_TreeRange.l0] at H
  replace H := kd_ H; rcases H with ⟨c11b0, H⟩ | ⟨c11b0, H⟩
  ·replace H := kdn_ H; obtain ⟨c12b0, H⟩ := H
   replace H := kdn_ H; obtain ⟨c13b0, H⟩ := H
   by_cases c14 : ((rd_T92 t444 x14_1).f0) ≥ a1
   ·rw [if_pos c14] at H
    have c14b0 : decide (a1 ≤ ((rd_T92 t444 x14_1).f0)) = true := decide_eq_true c14
    clear c14
    have HC15 := q_ H
    clear H
    have p447 : 0 ≤ (x14_1 : Int) := of_decide_eq_true z1_
    have q447 : x14_1 < (t444.length : Int) := of_decide_eq_true z1_
    obtain ⟨ad447, e447, hx447_0, hx447_1⟩ := at_T92 (Kd.R_reads' HO_12.out).2.2 x14_1 p447 q447
    cases e447
    replace p447 := eq_true p447
    replace q447 := eq_true q447
    go_upto_if 27 with (first | ((with_reducible refine gate_dst (N := 9) rfl ?_); refine box_event ?hg (N := 9) ?hd (cs := #[.int .i64 0, .int .i64 0]) (t := 92) ?hr ?_; (case hd => rfl); (case hg => rfl); (case hr => exact z95_); intro gb448 hg w16 hbox hb; replace HO_7 := q_ (Kd.R_below (Kd.R_elderB z20_ gb448 (Nat.le_of_eq hg.symm)) hb); replace HO_12 := q_ (Kd.R_below (Kd.R_elderB z74_ gb448 (Nat.le_of_eq hg.symm)) hb); have BK448 := q_ (hbox); have GW448 := ge_ hg; have GE448 := ge_ hg; replace HB := hb_ hb; clear hb hbox hg; obtain ⟨hz_, hz_, hz_, hz_⟩ := cs2_ BK448.out))
    (try simp only [Act.put, List.setIfInBounds_toArray, List.set_cons_zero, List.set_cons_succ])
    have H := HC15.out
    clear HC15
    replace H := kd_ H; rcases H with ⟨c18b0, H⟩ | ⟨c18b0, H⟩
    ·(first | rw [c18b0] | rw [c18b1] | (simp only [i64_w, i32_w]; first | rw [c18b0] | rw [c18b1]) | rw [c18b2] | skip)
     replace H := kln_ H; obtain ⟨LMc19, H⟩ := H
     obtain ⟨y449, hy_⟩ : ∃ y_ : List (S92), y_ = (x7_1 ++ [(⟨(rd_T92 t444 x14_1).f0, (rd_T92 t444 x14_1).f1⟩ : S92)]) := ⟨_, rfl⟩
     replace H : (impl_TreeRange.l0 k1 a1 a2 y449 t444 (t444.length : Int) (wrap64 (x14_1 + 1))) = some r := z3_
     have Ny449 := q_ hy_
     clear hy_
     have H' := q_ H
     clear H
     obtain ⟨hz_, hz_, hz_, hz_⟩ := cs2_ BK448.out
     go_wp2_with (first | ((with_reducible refine gate_builtin (b := .append) (xs := #[.tmp 28, .tmp 30]) rfl ?_); at_builtin; refine Kd.R_append k92 (w0 := w) w.heap.size rfl (.tmp 28) (.tmp 30) 30 92 (.agg #[(.int .i64 0), (.int .i64 0)]) 16 rfl Try.underlying30 info92 rfl (by decide) (by omega) u7 x7_1 (⟨(rd_T92 t444 x14_1).f0, (rd_T92 t444 x14_1).f1⟩ : S92) [.int .i64 ((rd_T92 t444 x14_1).f0), .int .i64 ((rd_T92 t444 x14_1).f1)] (fun k_ => some k_ ≠ (.slice (some ad447) t444.length co10 : Value).ownBlock ∧ k_ ≠ gb448) (fun _ => False) rfl (by first | (go_simp; done) | (go_simp; rfl)) ?aP (fun _ hk => hk.elim) ?aF ?aO ?aB ?aS ?aL ?_; (case aP => exact k92_mkM _ _ _ (⟨(rd_T92 t444 x14_1).f0, (rd_T92 t444 x14_1).f1⟩ : S92)); (case aB => exact cb_); (case aF => exact (fun k_ hk => ⟨Kd.fresh' (Kd.R_lt (by (with_reducible repeat (first | apply Kd.R_alloc | apply Kd.R_drewN | apply Kd.R_drew)); exact (Kd.R_mono (Kd.R_far (p := ⟨gb448, 1, none⟩) (Kd.R_far (p := ⟨gb448, 0, none⟩) (Kd.R_mono HO_12.out (fun k_ hk => (⟨hk, hk.2⟩ : _ ∧ k_ ≠ gb448))) (fun _ hk => hk.2) (.int .i64 ((rd_T92 t444 x14_1).f0))) (fun _ hk => hk.2) (.int .i64 ((rd_T92 t444 x14_1).f1))) (fun _ h_ => h_.1)))) k_ hk, Kd.freshB (g := gb448) (o := .cells #[.int .i64 ((rd_T92 t444 x14_1).f0), .int .i64 ((rd_T92 t444 x14_1).f1)] 92 (0, 0)) z30_ k_ hk⟩)); (case aO => exact (by (with_reducible repeat (first | apply Kd.R_alloc | apply Kd.R_drewN | apply Kd.R_drew)); exact Kd.R_mono (Kd.R_far (p := ⟨gb448, 1, none⟩) (Kd.R_far (p := ⟨gb448, 0, none⟩) (Kd.R_mono HO_7.out (fun k_ hk => (⟨hk, hk.2⟩ : _ ∧ k_ ≠ gb448))) (fun _ hk => hk.2) (.int .i64 ((rd_T92 t444 x14_1).f0))) (fun _ hk => hk.2) (.int .i64 ((rd_T92 t444 x14_1).f1))) (fun _ hk => ⟨hk.1.1, hk.1.2⟩))); (case aS => exact z125_); (case aL => have := LMc19.out; omega); intro v450 w21 ho hb hg hat; rw [← Ny449.out] at ho; replace HO_12 := q_ (Kd.R_after (ok := (fun k_ => k_ ≠ gb448)) (by (with_reducible repeat (first | apply Kd.R_alloc | apply Kd.R_drewN | apply Kd.R_drew)); exact Kd.R_mono (Kd.R_far (p := ⟨gb448, 1, none⟩) (Kd.R_far (p := ⟨gb448, 0, none⟩) (Kd.R_mono HO_12.out (fun k_ hk => (⟨hk, hk.2⟩ : _ ∧ k_ ≠ gb448))) (fun _ hk => hk.2) (.int .i64 ((rd_T92 t444 x14_1).f0))) (fun _ hk => hk.2) (.int .i64 ((rd_T92 t444 x14_1).f1))) (fun _ hk => ⟨hk.1.2, hk.1.1⟩)) hg hat); replace BK448 := q_ (blk_grown (g := gb448) (o := .cells #[.int .i64 ((rd_T92 t444 x14_1).f0), .int .i64 ((rd_T92 t444 x14_1).f1)] 92 (0, 0)) z30_ hg (Kd.R_away HO_7.out (fun _ hk => hk.2))); replace HB := q_ (hb); have HO451 := q_ (ho); clear HO_7; clear ho hb hg hat))
     go_roundg k1
     case measure => have := HK1.out; omega
     case rel => exact ⟨(y449), (wrap64 (x14_1 + 1)), z4_, H', ⟨z25_⟩, ⟨by (with_reducible repeat (first | apply Kd.R_alloc | apply Kd.R_drewN | apply Kd.R_drew)); exact Kd.R_mono HO451.out (fun _ hk => hk.1)⟩, ⟨by (with_reducible repeat (first | apply Kd.R_alloc | apply Kd.R_drewN | apply Kd.R_drew)); exact Kd.R_mono HO_12.out (fun _ hk => hk.2)⟩, ⟨cb_⟩⟩
    ·(first | rw [c18b0] | rw [c18b1] | (simp only [i64_w, i32_w]; first | rw [c18b0] | rw [c18b1]) | rw [c18b2] | skip)
     have H' := q_ H
     clear H
     go_wp2
     go_roundg k1
     case measure => have := HK1.out; omega
     case rel => exact ⟨(x7_1), (wrap64 (x14_1 + 1)), z4_, H', ⟨z25_⟩, ⟨z33_⟩, ⟨z32_⟩, ⟨cb_⟩⟩
   ·rw [if_neg c14] at H
    have c14b0 : decide (a1 ≤ ((rd_T92 t444 x14_1).f0)) = false := decide_eq_false c14
    clear c14
    have H' := q_ H
    clear H
    have p447 : 0 ≤ (x14_1 : Int) := of_decide_eq_true z1_
    have q447 : x14_1 < (t444.length : Int) := of_decide_eq_true z1_
    obtain ⟨ad447, e447, hx447_0, hx447_1⟩ := at_T92 (Kd.R_reads' HO_12.out).2.2 x14_1 p447 q447
    cases e447
    replace p447 := eq_true p447
    replace q447 := eq_true q447
    go_wp2_with (first | ((with_reducible refine gate_dst (N := 9) rfl ?_); refine box_event ?hg (N := 9) ?hd (cs := #[.int .i64 0, .int .i64 0]) (t := 92) ?hr ?_; (case hd => rfl); (case hg => rfl); (case hr => exact z95_); intro gb448 hg w22 hbox hb; replace HO_7 := q_ (Kd.R_below (Kd.R_elderB z20_ gb448 (Nat.le_of_eq hg.symm)) hb); replace HO_12 := q_ (Kd.R_below (Kd.R_elderB z74_ gb448 (Nat.le_of_eq hg.symm)) hb); have BK448 := q_ (hbox); have GW448 := ge_ hg; have GE448 := ge_ hg; replace HB := hb_ hb; clear hb hbox hg; obtain ⟨hz_, hz_, hz_, hz_⟩ := cs2_ BK448.out))
    go_roundg k1
    case measure => have := HK1.out; omega
    case rel => exact ⟨(x7_1), (wrap64 (x14_1 + 1)), z4_, H', ⟨z25_⟩, ⟨z33_⟩, ⟨z32_⟩, ⟨cb_⟩⟩
  ·obtain rfl := si_ H
   go_wp2
   go_ret
   exact ⟨_, z2_, z63_, cb_⟩

end Go.Proofs.Ytfnndcpaldkkoaa.PFnExactTreeRange
