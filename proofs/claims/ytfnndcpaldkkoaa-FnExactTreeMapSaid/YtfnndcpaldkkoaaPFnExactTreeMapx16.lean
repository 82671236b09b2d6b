-- Written by a program of this session, which goes by the kit's print. Not trusted: Lean checks it.
import Derived.Test.YtfnndcpaldkkoaaPFnExactTreeMapx0
import Derived.Test.YtfnndcpaldkkoaaPFnExactTreeMapx14
import Derived.Test.YtfnndcpaldkkoaaPFnExactTreeMapx15
namespace Go.Proofs.Ytfnndcpaldkkoaa.PFnExactTreeMap
open Go.RowKit Go.Proofs.YtfnndcpaldkkoaaW.PrintWords Go.Proofs.YtfnndcpaldkkoaaW.PrintLast Go.Proofs.YtfnndcpaldkkoaaW.PrintMore
attribute [local go_sem] Instr.field asAgg max2_int min2_int max_two min_two max_three min_three max_four min_four   -- for this text's walks alone
set_option linter.unusedVariables false
set_option linter.unusedSimpArgs false

/-! ### impl_treeMap: function 84 -/
mutual
def impl_treeMap.l0 : Nat → List (S92) → List (S34) → Int → Int → Bool → List (S92) → List Int → List (S34) → List (S72) → Option ((List (S92)))
 | 0, _, _, _, _, _, _, _, _, _ => none
 | k + 1, x3, x14, x15, x16, x400000, x400001, x400002, x400003, x400004 => if x16 < x15 then (if 0 ≤ x16 then (if x16 < (x14.length : Int) then ((impl_treeMap.f k ((rd_T34 x14 x16).f0) ((rd_T34 x14 x16).f1) ((rd_T34 x14 x16).f2) ((rd_T34 x14 x16).f3) ((rd_T34 x14 x16).f4)).bind fun t411 => (if x3.length + t411.length < 8796093022208 then (impl_treeMap.l0 k (x3 ++ t411) x14 x15 (wrap64 (x16 + 1)) x400000 x400001 x400002 x400003 x400004) else (none))) else (none)) else (none)) else ((impl_MapAll.f k x3 x400004).bind fun t417 => (some t417))
def impl_treeMap.f : Nat → Bool → List (S92) → List Int → List (S34) → List (S72) → Option ((List (S92)))
 | 0, _, _, _, _, _ => none
 | k + 1, a0_0, l0_1, l0_2, l0_3, l0_4 => if a0_0 = true then ((some (([] : List (S92)) : List (S92))).bind fun y400 => (if y400.length + l0_1.length < 8796093022208 then (some (y400 ++ l0_1)) else (none))) else (impl_treeMap.l0 k (([] : List (S92))) l0_3 (l0_3.length : Int) 0 a0_0 l0_1 l0_2 l0_3 l0_4)
end
theorem impl_treeMap.mono_l : ∀ k, (∀ y0 y1 y2 y3 y4, LeO (impl_treeMap.f k y0 y1 y2 y3 y4) (impl_treeMap.f (k + 1) y0 y1 y2 y3 y4)) ∧ (∀ y0 y1 y2 y3 y4 y5 y6 y7 y8, LeO (impl_treeMap.l0 k y0 y1 y2 y3 y4 y5 y6 y7 y8) (impl_treeMap.l0 (k + 1) y0 y1 y2 y3 y4 y5 y6 y7 y8))
 | 0 => ⟨fun _ _ _ _ _ r h => by simp [impl_treeMap.f] at h, fun _ _ _ _ _ _ _ _ _ r h => by simp [impl_treeMap.l0] at h⟩
 | k + 1 => by
  obtain ⟨ih0, ih1⟩ := impl_treeMap.mono_l k
  refine ⟨?_, ?_⟩
  ·intro y0 y1 y2 y3 y4
   unfold impl_treeMap.f
   have m0 := @impl_MapAll.mono
   exact zm_
  ·intro y0 y1 y2 y3 y4 y5 y6 y7 y8
   unfold impl_treeMap.l0
   have m0 := @impl_MapAll.mono
   exact zm_
theorem impl_treeMap.mono : ∀ a0 a1 a2 a3 a4 k, LeO (impl_treeMap.f k a0 a1 a2 a3 a4) (impl_treeMap.f (k + 1) a0 a1 a2 a3 a4) := by
 intro a0 a1 a2 a3 a4 k
 obtain ⟨ih0, ih1⟩ := impl_treeMap.mono_l k
 exact ih0 a0 a1 a2 a3 a4
set_option maxHeartbeats 8000000 in
set_option maxRecDepth 100000 in
theorem impl_treeMap.calls (k : Nat) : ∀ (a0_0 : Bool) (A0_1 : Option Addr) (c0_1 : Nat) (l0_1 : List (S92)) (A0_2 : Option Addr) (c0_2 : Nat) (l0_2 : List Int) (A0_3 : Option Addr) (c0_3 : Nat) (l0_3 : List (S34)) (A0_4 : Option Addr) (c0_4 : Nat) (l0_4 : List (S72)) (r : List (S92)) (w : World) (hr0_1 : Kd.C k92 w A0_1 l0_1.length l0_1) (hc0_1 : l0_1.length ≤ c0_1) (hr0_2 : Kd.C (Kd.int .i64) w A0_2 l0_2.length l0_2) (hc0_2 : l0_2.length ≤ c0_2) (hr0_3 : Kd.C k34 w A0_3 l0_3.length l0_3) (hc0_3 : l0_3.length ≤ c0_3) (hr0_4 : Kd.C k72 w A0_4 l0_4.length l0_4) (hc0_4 : l0_4.length ≤ c0_4) (h : impl_treeMap.f k a0_0 l0_1 l0_2 l0_3 l0_4 = some r),
  Calls Try.prog 84 #[.agg #[.bool a0_0, .slice A0_1 l0_1.length c0_1, .slice A0_2 l0_2.length c0_2, .slice A0_3 l0_3.length c0_3, .slice A0_4 l0_4.length c0_4]] w fun e w' => ∃ v0_ : Value, e = .returned (v0_) ∧ Kd.R k92 92 w' w.heap.size (fun _ => True) v0_ r ∧ Below w.heap.size w w' := by
 induction k using Nat.strongRecOn with
 | _ k ih =>
 intro a0_0 A0_1 c0_1 l0_1 A0_2 c0_2 l0_2 A0_3 c0_3 l0_3 A0_4 c0_4 l0_4 r w hr0_1 hc0_1 hr0_2 hc0_2 hr0_3 hc0_3 hr0_4 hc0_4 h
 cases k with
 | zero => exact absurd h (by simp [impl_treeMap.f])
 | succ k =>
 simp only [impl_treeMap.f] at h
 have hu34 := Try.underlying34
 have HR0_1 := q_ hr0_1
 have HC0_1 := q_ hc0_1
 clear hr0_1 hc0_1
 have HR0_2 := q_ hr0_2
 have HC0_2 := q_ hc0_2
 clear hr0_2 hc0_2
 have HR0_3 := q_ hr0_3
 have HC0_3 := q_ hc0_3
 clear hr0_3 hc0_3
 have HR0_4 := q_ hr0_4
 have HC0_4 := q_ hc0_4
 clear hr0_4 hc0_4
 have HB := q_ (Below.refl w.heap.size w)
 have H := h; clear h
 have HC2 := q_ H
 clear H
 go_enter Try.func84, Try.ntmps84
 go_upto_if 7 with (first | ((with_reducible refine gate_dst (N := 1) rfl ?_); refine box_event ?hg (N := 1) ?hd (cs := #[.bool a0_0, .slice A0_1 l0_1.length c0_1, .slice A0_2 l0_2.length c0_2, .slice A0_3 l0_3.length c0_3, .slice A0_4 l0_4.length c0_4]) (t := 34) ?hr ?_; (case hd => rfl); (case hg => rfl); (case hr => exact z88_); intro gb399 hg w3 hbox hb; have BK399 := q_ (hbox); have GW399 := ge_ hg; have GE399 := ge_ hg; replace HB := hb_ hb; clear hb hbox hg; obtain ⟨hz_, hz_, hz_, hz_, hz_, hz_, hz_, hz_, hz_, hz_⟩ := cs5_ BK399.out))
 (try simp only [Act.put, List.setIfInBounds_toArray, List.set_cons_zero, List.set_cons_succ])
 have H := HC2.out
 clear HC2
 replace H := kb_ H; rcases H with ⟨rfl, H⟩ | ⟨rfl, H⟩
 ·obtain ⟨y400, hy_⟩ : ∃ y_ : List (S92), y_ = (([] : List (S92))) := ⟨_, rfl⟩
  replace H : (if y400.length + l0_1.length < 8796093022208 then (some (y400 ++ l0_1)) else (none)) = some r := z3_
  have Ny400 := q_ hy_
  clear hy_
  replace H := kln_ H; obtain ⟨LMc6, H⟩ := H
  obtain ⟨y403, hy_⟩ : ∃ y_ : List (S92), y_ = (y400 ++ l0_1) := ⟨_, rfl⟩
  replace H : (some y403) = some r := z3_
  have Ny403 := q_ hy_
  clear hy_
  obtain rfl := si_ H
  go_wp2_with (first | ((with_reducible refine gate_dst (N := 8) rfl ?_); refine Kd.R_lit k92 _ 92 ?hg (N := 8) ?hd (xs := ([] : List (S92))) (inner := []) (ok := fun _ => True) (okp := fun _ => True) ?hr ?hp (fun _ hk => hk) trivial (Below.refl _ _) (Nat.le_refl _) (by simp) ?_; (case hd => rfl); (case hg => rfl); (case hr => exact z88_); (case hp => exact z120_); intro v401 w7 ho8 hb hg_ hnew_; clear hg_ hnew_; (first | rw [← Ny400.out] at ho8 | (simp only [Int.reduceToNat] at ho8; rw [← Ny400.out] at ho8)); have HO402 := q_ (Kd.R_lower ho8 (below_size cb_)); replace BK399 := rb_ BK399 hb; replace HB := hb_ hb; clear hb ho8; obtain ⟨hz_, hz_, hz_, hz_, hz_, hz_, hz_, hz_, hz_, hz_⟩ := cs5_ BK399.out) | ((with_reducible refine gate_builtin (b := .append) (xs := #[.tmp 8, .tmp 10]) rfl ?_); at_builtin; refine Kd.R_append_rows k92 (w0 := w) w.heap.size rfl (.tmp 8) (.tmp 10) 30 92 (.agg #[(.int .i64 0), (.int .i64 0)]) 16 rfl Try.underlying30 info92 rfl (by decide) (by omega) v401 y400 l0_1 _ _ _ (fun _ => True) (fun _ => False) rfl rfl ?aO ?aR (fun _ _ h => h) (fun _ h => h.elim) ?aF ?aB ?aS ?aL ?_; (case aR => exact z87_); (case aB => exact cb_); (case aF => exact z118_); (case aO => exact (by (with_reducible repeat (first | apply Kd.R_alloc | apply Kd.R_drewN | apply Kd.R_drew)); exact HO402.out)); (case aS => exact z119_); (case aL => have := LMc6.out; omega); intro v404 w10 ho hb hg hat; rw [← Ny403.out] at ho; replace HB := q_ (hb); have HO405 := q_ (ho); clear HO402; clear ho hb hg hat))
  go_ret
  exact ⟨_, z1_, by (with_reducible repeat (first | apply Kd.R_alloc | apply Kd.R_drewN | apply Kd.R_drew)); exact HO405.out, cb_⟩
 ·obtain ⟨y406, hy_⟩ : ∃ y_ : List (S92), y_ = (([] : List (S92))) := ⟨_, rfl⟩
  replace H : (impl_treeMap.l0 k y406 l0_3 (l0_3.length : Int) 0 false l0_1 l0_2 l0_3 l0_4) = some r := z3_
  have Ny406 := q_ hy_
  clear hy_
  have H' := q_ H
  clear H
  go_wp2_with (first | ((with_reducible refine gate_dst (N := 12) rfl ?_); refine Kd.R_lit k92 _ 92 ?hg (N := 12) ?hd (xs := ([] : List (S92))) (inner := []) (ok := fun _ => True) (okp := fun _ => True) ?hr ?hp (fun _ hk => hk) trivial (Below.refl _ _) (Nat.le_refl _) (by simp) ?_; (case hd => rfl); (case hg => rfl); (case hr => exact z88_); (case hp => exact z120_); intro v407 w11 ho12 hb hg_ hnew_; clear hg_ hnew_; (first | rw [← Ny406.out] at ho12 | (simp only [Int.reduceToNat] at ho12; rw [← Ny406.out] at ho12)); have HO408 := q_ (Kd.R_lower ho12 (below_size cb_)); replace BK399 := rb_ BK399 hb; replace HB := hb_ hb; clear hb ho12; obtain ⟨hz_, hz_, hz_, hz_, hz_, hz_, hz_, hz_, hz_, hz_⟩ := cs5_ BK399.out))
  go_loopg [3, 16] k (fun kq v3 v16 w' => ∃ (x3_1 : List (S92)) (x16_1 : Int), v16 = .int .i64 x16_1 ∧ Aside0 (impl_treeMap.l0 kq x3_1 l0_3 (l0_3.length : Int) x16_1 false l0_1 l0_2 l0_3 l0_4 = some r) ∧ Aside0 (kq ≤ k) ∧ Aside0 (Kd.R k92 92 w' w.heap.size (fun _ => True) v3 x3_1) ∧ Aside0 (w'.heap[gb399]? = some (.cells #[.bool false, (.slice A0_1 l0_1.length c0_1), (.slice A0_2 l0_2.length c0_2), (.slice A0_3 l0_3.length c0_3), (.slice A0_4 l0_4.length c0_4)] 34 (0, 0))) ∧ Aside0 (Below w.heap.size w w'))
  case atStart => exact ⟨(y406), (0), z4_, H', ⟨Nat.le_refl _⟩, ⟨by (with_reducible repeat (first | apply Kd.R_alloc | apply Kd.R_drewN | apply Kd.R_drew)); exact HO408.out⟩, ⟨z57_⟩, ⟨cb_⟩⟩
  case round =>
   clear H'
   try clear p2
   try clear c5
   try clear c6
   try clear c8
   repeat clear hz_
   obtain ⟨x3_1, x16_1, rfl, HA, HK1, HO_3, BK399, HB⟩ := hrel
   obtain ⟨k1, rfl, H⟩ := rn_ (k := gk) HA (by rintro rfl; simp only [impl_treeMap.l0])
   clear HA
   simp only [impl_treeMap.l0] at H
   replace H := kd_ H; rcases H with ⟨c14b0, H⟩ | ⟨c14b0, H⟩
   ·(first | rw [c14b0] | rw [c14b1] | (simp only [i64_w, i32_w]; first | rw [c14b0] | rw [c14b1]) | rw [c14b2] | skip)
    replace H := kdn_ H; obtain ⟨c15b0, H⟩ := H
    replace H := kdn_ H; obtain ⟨c16b0, H⟩ := H
    replace H := bi_ H; obtain ⟨t411, A17, H⟩ := H
    replace H := kln_ H; obtain ⟨LMc18, H⟩ := H
    obtain ⟨y414, hy_⟩ : ∃ y_ : List (S92), y_ = (x3_1 ++ t411) := ⟨_, rfl⟩
    replace H : (impl_treeMap.l0 k1 y414 l0_3 (l0_3.length : Int) (wrap64 (x16_1 + 1)) false l0_1 l0_2 l0_3 l0_4) = some r := z3_
    have Ny414 := q_ hy_
    clear hy_
    have H' := q_ H
    clear H
    have p409 : 0 ≤ (x16_1 : Int) := of_decide_eq_true z2_
    have q409 : x16_1 < (l0_3.length : Int) := of_decide_eq_true z2_
    obtain ⟨ad409, A409_1, c409_1, A409_2, c409_2, A409_3, c409_3, A409_4, c409_4, e409, hx409_0, hx409_1, hx409_2, hx409_3, hx409_4, hl409_1, hi409_1, hl409_2, hi409_2, hl409_3, hi409_3, hl409_4, hi409_4⟩ := at_T34 HR0_3.out x16_1 p409 q409
    cases e409
    replace hx409_0 := up_ HB hx409_0
    replace hx409_1 := up_ HB hx409_1
    replace hx409_2 := up_ HB hx409_2
    replace hx409_3 := up_ HB hx409_3
    replace hx409_4 := up_ HB hx409_4
    have HR409_1 := q_ hi409_1
    have HC409_1 := q_ hl409_1
    clear hi409_1 hl409_1
    have HR409_2 := q_ hi409_2
    have HC409_2 := q_ hl409_2
    clear hi409_2 hl409_2
    have HR409_3 := q_ hi409_3
    have HC409_3 := q_ hl409_3
    clear hi409_3 hl409_3
    have HR409_4 := q_ hi409_4
    have HC409_4 := q_ hl409_4
    clear hi409_4 hl409_4
    replace p409 := eq_true p409
    replace q409 := eq_true q409
    go_wp2_with (first | ((with_reducible refine gate_dst (N := 5) rfl ?_); refine box_event ?hg (N := 5) ?hd (cs := #[.bool false, .slice none 0 0, .slice none 0 0, .slice none 0 0, .slice none 0 0]) (t := 34) ?hr ?_; (case hd => rfl); (case hg => rfl); (case hr => exact z88_); intro gb410 hg w19 hbox hb; replace HO_3 := q_ (Kd.R_below z8_ hb); have BK410 := q_ (hbox); have GW410 := ge_ hg; have GE410 := ge_ hg; replace HB := hb_ hb; have NB399_410 := nl_ hg BK399; have NB410_399 := nr_ hg BK399; replace BK399 := rb_ BK399 hb; clear hb hbox hg; have hnb20 := NB410_399.out; have hnc20 := NB399_410.out; obtain ⟨hz_, hz_, hz_, hz_, hz_, hz_, hz_, hz_, hz_, hz_⟩ := cs5_ BK410.out) | ((with_reducible refine gate_callee (f := 84) rfl ?_); refine goesL_ (some 22) rfl rfl Try.func84 (by kernel_rfl) rfl #[.agg #[.bool ((rd_T34 l0_3 x16_1).f0), .slice A409_1 ((rd_T34 l0_3 x16_1).f1).length c409_1, .slice A409_2 ((rd_T34 l0_3 x16_1).f2).length c409_2, .slice A409_3 ((rd_T34 l0_3 x16_1).f3).length c409_3, .slice A409_4 ((rd_T34 l0_3 x16_1).f4).length c409_4]] rfl z0_ ?_; (with_reducible refine (ih k1 z27_ ((rd_T34 l0_3 x16_1).f0) _ _ ((rd_T34 l0_3 x16_1).f1) _ _ ((rd_T34 l0_3 x16_1).f2) _ _ ((rd_T34 l0_3 x16_1).f3) _ _ ((rd_T34 l0_3 x16_1).f4) t411 _ ?side1 ?side2 ?side3 ?side4 ?side5 ?side6 ?side7 ?side8 A17.out).mono ?_); (case side1 => exact Kd.C_below HR409_1.out cb_); (case side2 => exact HC409_1.out); (case side3 => exact Kd.C_below HR409_2.out cb_); (case side4 => exact HC409_2.out); (case side5 => exact Kd.C_below HR409_3.out cb_); (case side6 => exact HC409_3.out); (case side7 => exact Kd.C_below HR409_4.out cb_); (case side8 => exact HC409_4.out); rintro e w22 ⟨v412, rfl, ho0, hb⟩; refine ⟨_, rfl, ?_⟩; have HO413 := q_ (Kd.R_lower (Kd.R_new' ho0 (Kd.R_lt (by (with_reducible repeat (first | apply Kd.R_alloc | apply Kd.R_drewN | apply Kd.R_drew)); exact (Kd.R_mono (Kd.R_far (p := ⟨gb410, 4, none⟩) (Kd.R_far (p := ⟨gb410, 3, none⟩) (Kd.R_far (p := ⟨gb410, 2, none⟩) (Kd.R_far (p := ⟨gb410, 1, none⟩) (Kd.R_far (p := ⟨gb410, 0, none⟩) (Kd.R_types HO_3.out BK410.out (by decide)) (fun _ hk => hk.2) (.bool ((rd_T34 l0_3 x16_1).f0))) (fun _ hk => hk.2) (.slice A409_1 ((rd_T34 l0_3 x16_1).f1).length c409_1)) (fun _ hk => hk.2) (.slice A409_2 ((rd_T34 l0_3 x16_1).f2).length c409_2)) (fun _ hk => hk.2) (.slice A409_3 ((rd_T34 l0_3 x16_1).f3).length c409_3)) (fun _ hk => hk.2) (.slice A409_4 ((rd_T34 l0_3 x16_1).f4).length c409_4)) (fun _ h_ => h_.1))))) (below_size cb_)); replace HO_3 := q_ (Kd.R_elder' (by (with_reducible repeat (first | apply Kd.R_alloc | apply Kd.R_drewN | apply Kd.R_drew)); exact (Kd.R_mono (Kd.R_far (p := ⟨gb410, 4, none⟩) (Kd.R_far (p := ⟨gb410, 3, none⟩) (Kd.R_far (p := ⟨gb410, 2, none⟩) (Kd.R_far (p := ⟨gb410, 1, none⟩) (Kd.R_far (p := ⟨gb410, 0, none⟩) (Kd.R_types HO_3.out BK410.out (by decide)) (fun _ hk => hk.2) (.bool ((rd_T34 l0_3 x16_1).f0))) (fun _ hk => hk.2) (.slice A409_1 ((rd_T34 l0_3 x16_1).f1).length c409_1)) (fun _ hk => hk.2) (.slice A409_2 ((rd_T34 l0_3 x16_1).f2).length c409_2)) (fun _ hk => hk.2) (.slice A409_3 ((rd_T34 l0_3 x16_1).f3).length c409_3)) (fun _ hk => hk.2) (.slice A409_4 ((rd_T34 l0_3 x16_1).f4).length c409_4)) (fun _ h_ => h_.1))) (Kd.R_base ho0) hb); replace BK399 := q_ (blk_below (g := gb399) (o := .cells #[.bool false, .slice A0_1 l0_1.length c0_1, .slice A0_2 l0_2.length c0_2, .slice (some ad409) l0_3.length c0_3, .slice A0_4 l0_4.length c0_4] 34 (0, 0)) (by (with_reducible repeat (first | refine blk_drewN ?_ _ | refine blk_drew ?_ | refine blk_alloc ?_ _)); refine blk_far ?_ NB399_410.out _; (with_reducible repeat (first | refine blk_drewN ?_ _ | refine blk_drew ?_ | refine blk_alloc ?_ _)); refine blk_far ?_ NB399_410.out _; (with_reducible repeat (first | refine blk_drewN ?_ _ | refine blk_drew ?_ | refine blk_alloc ?_ _)); refine blk_far ?_ NB399_410.out _; (with_reducible repeat (first | refine blk_drewN ?_ _ | refine blk_drew ?_ | refine blk_alloc ?_ _)); refine blk_far ?_ NB399_410.out _; (with_reducible repeat (first | refine blk_drewN ?_ _ | refine blk_drew ?_ | refine blk_alloc ?_ _)); refine blk_far ?_ NB399_410.out _; (with_reducible repeat (first | refine blk_drewN ?_ _ | refine blk_drew ?_ | refine blk_alloc ?_ _)); exact BK399.out) hb); replace BK410 := q_ (blk_below (g := gb410) (o := .cells #[.bool ((rd_T34 l0_3 x16_1).f0), .slice A409_1 ((rd_T34 l0_3 x16_1).f1).length c409_1, .slice A409_2 ((rd_T34 l0_3 x16_1).f2).length c409_2, .slice A409_3 ((rd_T34 l0_3 x16_1).f3).length c409_3, .slice A409_4 ((rd_T34 l0_3 x16_1).f4).length c409_4] 34 (0, 0)) (by (with_reducible repeat (first | refine blk_drewN ?_ _ | refine blk_drew ?_ | refine blk_alloc ?_ _)); refine blk_put (cs := #[.bool ((rd_T34 l0_3 x16_1).f0), .slice A409_1 ((rd_T34 l0_3 x16_1).f1).length c409_1, .slice A409_2 ((rd_T34 l0_3 x16_1).f2).length c409_2, .slice A409_3 ((rd_T34 l0_3 x16_1).f3).length c409_3, .slice none 0 0]) ?_ 4 _ rfl; (with_reducible repeat (first | refine blk_drewN ?_ _ | refine blk_drew ?_ | refine blk_alloc ?_ _)); refine blk_put (cs := #[.bool ((rd_T34 l0_3 x16_1).f0), .slice A409_1 ((rd_T34 l0_3 x16_1).f1).length c409_1, .slice A409_2 ((rd_T34 l0_3 x16_1).f2).length c409_2, .slice none 0 0, .slice none 0 0]) ?_ 3 _ rfl; (with_reducible repeat (first | refine blk_drewN ?_ _ | refine blk_drew ?_ | refine blk_alloc ?_ _)); refine blk_put (cs := #[.bool ((rd_T34 l0_3 x16_1).f0), .slice A409_1 ((rd_T34 l0_3 x16_1).f1).length c409_1, .slice none 0 0, .slice none 0 0, .slice none 0 0]) ?_ 2 _ rfl; (with_reducible repeat (first | refine blk_drewN ?_ _ | refine blk_drew ?_ | refine blk_alloc ?_ _)); refine blk_put (cs := #[.bool ((rd_T34 l0_3 x16_1).f0), .slice none 0 0, .slice none 0 0, .slice none 0 0, .slice none 0 0]) ?_ 1 _ rfl; (with_reducible repeat (first | refine blk_drewN ?_ _ | refine blk_drew ?_ | refine blk_alloc ?_ _)); refine blk_put (cs := #[.bool false, .slice none 0 0, .slice none 0 0, .slice none 0 0, .slice none 0 0]) ?_ 0 _ rfl; (with_reducible repeat (first | refine blk_drewN ?_ _ | refine blk_drew ?_ | refine blk_alloc ?_ _)); exact BK410.out) hb); replace HB := hb_ hb; (try clear hb); (try clear hb2); (try clear hk); (try clear hi); (try clear ho0); obtain ⟨Ao24, co24, eo24⟩ := Kd.R_slice HO413.out; subst eo24) | ((with_reducible refine gate_builtin (b := .append) (xs := #[.tmp 20, .tmp 22]) rfl ?_); at_builtin; refine Kd.R_append_rows k92 (w0 := w) w.heap.size rfl (.tmp 20) (.tmp 22) 30 92 (.agg #[(.int .i64 0), (.int .i64 0)]) 16 rfl Try.underlying30 info92 rfl (by decide) (by omega) u3 x3_1 t411 _ _ _ (fun k_ => some k_ ≠ (.slice Ao24 t411.length co24 : Value).ownBlock) (fun _ => False) rfl rfl ?aO ?aR (fun _ _ h => h) (fun _ h => h.elim) ?aF ?aB ?aS ?aL ?_; (case aR => repeat (first | exact (Kd.R_reads' HO413.out).2.2 | (with_reducible refine Kd.C_alloc ?_ _) | (with_reducible refine Kd.C_drewN ?_ _) | (with_reducible refine Kd.C_drew ?_))); (case aB => exact cb_); (case aF => exact (fun k_ hk => Kd.fresh' (Kd.R_lt z67_) k_ hk)); (case aO => exact z62_); (case aS => exact z119_); (case aL => have := LMc18.out; omega); intro v415 w23 ho hb hg hat; rw [← Ny414.out] at ho; replace BK399 := q_ (blk_grown (g := gb399) (o := .cells #[.bool false, .slice A0_1 l0_1.length c0_1, .slice A0_2 l0_2.length c0_2, .slice (some ad409) l0_3.length c0_3, .slice A0_4 l0_4.length c0_4] 34 (0, 0)) z57_ hg (Kd.R_ne HO_3.out BK399.out (by decide))); replace BK410 := q_ (blk_grown (g := gb410) (o := .cells #[.bool ((rd_T34 l0_3 x16_1).f0), .slice A409_1 ((rd_T34 l0_3 x16_1).f1).length c409_1, .slice A409_2 ((rd_T34 l0_3 x16_1).f2).length c409_2, .slice A409_3 ((rd_T34 l0_3 x16_1).f3).length c409_3, .slice A409_4 ((rd_T34 l0_3 x16_1).f4).length c409_4] 34 (0, 0)) (by (with_reducible repeat (first | refine blk_drewN ?_ _ | refine blk_drew ?_ | refine blk_alloc ?_ _)); exact BK410.out) hg (Kd.R_ne HO_3.out BK410.out (by decide))); replace HO413 := q_ (Kd.R_after (ok := (fun _ => True)) z67_ hg hat); replace HB := q_ (hb); have HO416 := q_ (ho); clear HO_3; clear ho hb hg hat))
    go_roundg k1
    case measure => have := HK1.out; omega
    case rel => exact ⟨(y414), (wrap64 (x16_1 + 1)), z4_, H', ⟨z27_⟩, ⟨by (with_reducible repeat (first | apply Kd.R_alloc | apply Kd.R_drewN | apply Kd.R_drew)); exact Kd.R_mono HO416.out (fun _ hk => trivial)⟩, ⟨z57_⟩, ⟨cb_⟩⟩
   ·(first | rw [c14b0] | rw [c14b1] | (simp only [i64_w, i32_w]; first | rw [c14b0] | rw [c14b1]) | rw [c14b2] | skip)
    replace H := bi_ H; obtain ⟨t417, A25, H⟩ := H
    obtain rfl := si_ H
    obtain ⟨hz_, hz_, hz_, hz_, hz_, hz_, hz_, hz_, hz_, hz_⟩ := cs5_ BK399.out
    obtain ⟨Ao27, co27, eo27⟩ := Kd.R_slice HO_3.out
    subst eo27
    go_wp2_with (first | ((with_reducible refine gate_callee (f := 82) rfl ?_); refine goesL_ (some 28) rfl rfl Try.func82 (by kernel_rfl) rfl #[.slice Ao27 x3_1.length co27, .slice A0_4 l0_4.length c0_4] rfl z0_ ?_; (with_reducible refine (impl_MapAll.calls k1 _ _ x3_1 _ _ l0_4 t417 _ ?side1 ?side2 ?side3 ?side4 A25.out).mono ?_); (case side1 => exact z115_); (case side2 => exact (Kd.R_reads' HO_3.out).2.1); (case side3 => exact z89_); (case side4 => exact HC0_4.out); rintro e w28 ⟨v418, rfl, ho0, hb⟩; refine ⟨_, rfl, ?_⟩; have HO419 := q_ (Kd.R_lower (Kd.R_new' ho0 (Kd.R_lt z8_)) (below_size cb_)); replace HO_3 := q_ (Kd.R_elder' z8_ (Kd.R_base ho0) hb); replace HB := hb_ hb; (try clear hb); (try clear hb2); (try clear hk); (try clear hi); (try clear ho0)))
    go_ret
    exact ⟨_, z1_, by (with_reducible repeat (first | apply Kd.R_alloc | apply Kd.R_drewN | apply Kd.R_drew)); exact Kd.R_mono HO419.out (fun _ hk => trivial), cb_⟩

/-! ### impl_TreeMap: function 37 -/
def impl_TreeMap.f (k : Nat) (a0_0 : Bool) (l0_1 : List (S92)) (l0_2 : List Int) (l0_3 : List (S34)) (l0_4 : List (S72)) : Option ((List (S92))) := (impl_TreeOk.f k a0_0 l0_1 l0_2 l0_3 l0_4).bind fun t421 => (if t421 = true then ((impl_treeMap.f k a0_0 l0_1 l0_2 l0_3 l0_4).bind fun t422 => (some t422)) else (some ([] : List (S92))))
theorem impl_TreeMap.mono : ∀ a0 a1 a2 a3 a4 k, LeO (impl_TreeMap.f k a0 a1 a2 a3 a4) (impl_TreeMap.f (k + 1) a0 a1 a2 a3 a4) := by
 intro a0 a1 a2 a3 a4 k
 unfold impl_TreeMap.f
 have m0 := @impl_TreeOk.mono
 have m1 := @impl_treeMap.mono
 exact zm_
set_option maxHeartbeats 8000000 in
set_option maxRecDepth 100000 in
theorem impl_TreeMap.calls (k : Nat) (a0_0 : Bool) (A0_1 : Option Addr) (c0_1 : Nat) (l0_1 : List (S92)) (A0_2 : Option Addr) (c0_2 : Nat) (l0_2 : List Int) (A0_3 : Option Addr) (c0_3 : Nat) (l0_3 : List (S34)) (A0_4 : Option Addr) (c0_4 : Nat) (l0_4 : List (S72)) (r : List (S92)) (w : World) (hr0_1 : Kd.C k92 w A0_1 l0_1.length l0_1) (hc0_1 : l0_1.length ≤ c0_1) (hr0_2 : Kd.C (Kd.int .i64) w A0_2 l0_2.length l0_2) (hc0_2 : l0_2.length ≤ c0_2) (hr0_3 : Kd.C k34 w A0_3 l0_3.length l0_3) (hc0_3 : l0_3.length ≤ c0_3) (hr0_4 : Kd.C k72 w A0_4 l0_4.length l0_4) (hc0_4 : l0_4.length ≤ c0_4) (h : impl_TreeMap.f k a0_0 l0_1 l0_2 l0_3 l0_4 = some r) :
  Calls Try.prog 37 #[.agg #[.bool a0_0, .slice A0_1 l0_1.length c0_1, .slice A0_2 l0_2.length c0_2, .slice A0_3 l0_3.length c0_3, .slice A0_4 l0_4.length c0_4]] w fun e w' => ∃ v0_ : Value, e = .returned (v0_) ∧ Kd.R k92 92 w' w.heap.size (fun _ => True) v0_ r ∧ Below w.heap.size w w' := by
 have hu34 := Try.underlying34
 have HR0_1 := q_ hr0_1
 have HC0_1 := q_ hc0_1
 clear hr0_1 hc0_1
 have HR0_2 := q_ hr0_2
 have HC0_2 := q_ hc0_2
 clear hr0_2 hc0_2
 have HR0_3 := q_ hr0_3
 have HC0_3 := q_ hc0_3
 clear hr0_3 hc0_3
 have HR0_4 := q_ hr0_4
 have HC0_4 := q_ hc0_4
 clear hr0_4 hc0_4
 have HB := q_ (Below.refl w.heap.size w)
 have H := h; clear h
 unfold impl_TreeMap.f at H
 replace H := bi_ H; obtain ⟨t421, A2, H⟩ := H
 have HC3 := q_ H
 clear H
 go_enter Try.func37, Try.ntmps37
 go_upto_if 5 with (first | ((with_reducible refine gate_dst (N := 1) rfl ?_); refine box_event ?hg (N := 1) ?hd (cs := #[.bool a0_0, .slice A0_1 l0_1.length c0_1, .slice A0_2 l0_2.length c0_2, .slice A0_3 l0_3.length c0_3, .slice A0_4 l0_4.length c0_4]) (t := 34) ?hr ?_; (case hd => rfl); (case hg => rfl); (case hr => exact z88_); intro gb420 hg w4 hbox hb; have BK420 := q_ (hbox); have GW420 := ge_ hg; have GE420 := ge_ hg; replace HB := hb_ hb; clear hb hbox hg; obtain ⟨hz_, hz_, hz_, hz_, hz_, hz_, hz_, hz_, hz_, hz_⟩ := cs5_ BK420.out) | ((with_reducible refine gate_callee (f := 21) rfl ?_); refine goesL_ (some 4) rfl rfl Try.func21 (by kernel_rfl) rfl #[.agg #[.bool a0_0, .slice A0_1 l0_1.length c0_1, .slice A0_2 l0_2.length c0_2, .slice A0_3 l0_3.length c0_3, .slice A0_4 l0_4.length c0_4]] rfl z0_ ?_; (with_reducible refine (impl_TreeOk.calls k a0_0 _ _ l0_1 _ _ l0_2 _ _ l0_3 _ _ l0_4 t421 _ ?side1 ?side2 ?side3 ?side4 ?side5 ?side6 ?side7 ?side8 A2.out).mono ?_); (case side1 => exact z87_); (case side2 => exact z110_); (case side3 => exact z90_); (case side4 => exact HC0_2.out); (case side5 => exact z91_); (case side6 => exact HC0_3.out); (case side7 => exact z89_); (case side8 => exact HC0_4.out); rintro e w6 ⟨rfl, hb⟩; refine ⟨_, rfl, ?_⟩; replace BK420 := rb_ BK420 hb; replace HB := hb_ hb; (try clear hb); (try clear hb2); (try clear hk); (try clear hi)))
 (try simp only [Act.put, List.setIfInBounds_toArray, List.set_cons_zero, List.set_cons_succ])
 have H := HC3.out
 clear HC3
 replace H := kb_ H; rcases H with ⟨rfl, H⟩ | ⟨rfl, H⟩
 ·replace H := bi_ H; obtain ⟨t422, A8, H⟩ := H
  obtain rfl := si_ H
  obtain ⟨hz_, hz_, hz_, hz_, hz_, hz_, hz_, hz_, hz_, hz_⟩ := cs5_ BK420.out
  go_wp2_with (first | ((with_reducible refine gate_callee (f := 84) rfl ?_); refine goesL_ (some 7) rfl rfl Try.func84 (by kernel_rfl) rfl #[.agg #[.bool a0_0, .slice A0_1 l0_1.length c0_1, .slice A0_2 l0_2.length c0_2, .slice A0_3 l0_3.length c0_3, .slice A0_4 l0_4.length c0_4]] rfl z0_ ?_; (with_reducible refine (impl_treeMap.calls k a0_0 _ _ l0_1 _ _ l0_2 _ _ l0_3 _ _ l0_4 t422 _ ?side1 ?side2 ?side3 ?side4 ?side5 ?side6 ?side7 ?side8 A8.out).mono ?_); (case side1 => exact z87_); (case side2 => exact z110_); (case side3 => exact z90_); (case side4 => exact HC0_2.out); (case side5 => exact z91_); (case side6 => exact HC0_3.out); (case side7 => exact z89_); (case side8 => exact HC0_4.out); rintro e w10 ⟨v423, rfl, ho0, hb⟩; refine ⟨_, rfl, ?_⟩; have HO424 := q_ (Kd.R_lower ho0 (below_size cb_)); replace HB := hb_ hb; (try clear hb); (try clear hb2); (try clear hk); (try clear hi); (try clear ho0)))
  go_ret
  exact ⟨_, z1_, by (with_reducible repeat (first | apply Kd.R_alloc | apply Kd.R_drewN | apply Kd.R_drew)); exact HO424.out, cb_⟩
 ·obtain rfl := si_ H
  go_wp2
  go_ret
  exact ⟨_, z1_, by first | exact Kd.R_nil _ _ _ _ _ | exact Kd.N_nil _ _ _ _ _ | exact Kd.V_nil _ _ _ _ _ | exact Kd.Q_nil _ _ _ _ _ | exact Kd.S_nil _ _ _ _ _, cb_⟩

/-! ### laws_heldPairS: function 40 -/
def laws_heldPairS.l0 : Nat → List (S92) → Int → Int → Option (Int)
 | 0, _, _, _ => none
 | k + 1, x0, x1, x5 => if x5 < (x0.length : Int) then (if 0 ≤ x5 then (if ((rd_T92 x0 x5).f0) = x1 then (if ((rd_T92 x0 x5).f1) = (wrap64 (x1 + 1)) then (laws_heldPairS.l0 k x0 (wrap64 ((wrap64 (x1 + 1)) + 1)) (wrap64 (x5 + 1))) else (some (-1))) else (some (-1))) else (none)) else (some x1)
def laws_heldPairS.f (k : Nat) (l0 : List (S92)) (a1 : Int) : Option (Int) := laws_heldPairS.l0 k l0 a1 0
theorem laws_heldPairS.mono_l : ∀ k, (∀ y0 y1 y2, LeO (laws_heldPairS.l0 k y0 y1 y2) (laws_heldPairS.l0 (k + 1) y0 y1 y2))
 | 0 => fun _ _ _ r h => by simp [laws_heldPairS.l0] at h
 | k + 1 => by
  have ih0 := laws_heldPairS.mono_l k
  ·intro y0 y1 y2
   unfold laws_heldPairS.l0
   exact zm_
theorem laws_heldPairS.mono : ∀ a0 a1 k, LeO (laws_heldPairS.f k a0 a1) (laws_heldPairS.f (k + 1) a0 a1) := by
 intro a0 a1 k
 have ih0 := laws_heldPairS.mono_l k
 unfold laws_heldPairS.f
 exact zm_
set_option maxHeartbeats 8000000 in
set_option maxRecDepth 100000 in
theorem laws_heldPairS.calls (k : Nat) (A0 : Option Addr) (c0 : Nat) (l0 : List (S92)) (a1 : Int) (r : Int) (w : World) (hr0 : Kd.C k92 w A0 l0.length l0) (hc0 : l0.length ≤ c0) (h : laws_heldPairS.f k l0 a1 = some r) :
  Calls Try.prog 40 #[.slice A0 l0.length c0, .int .i64 a1] w fun e w' => e = .returned (.int .i64 r) ∧ Drawn0 w w' := by
 have HR0 := q_ hr0
 have HC0 := q_ hc0
 clear hr0 hc0
 have H := h; clear h
 unfold laws_heldPairS.f at H
 have H' := q_ H
 clear H
 go_enter Try.func40, Try.ntmps40
 go_wp2
 go_loopg [1, 5] k (fun kq v1 v5 w' => ∃ (x1_1 : Int) (x5_1 : Int), v1 = .int .i64 x1_1 ∧ v5 = .int .i64 x5_1 ∧ Aside0 (laws_heldPairS.l0 kq l0 x1_1 x5_1 = some r) ∧ Aside0 (kq ≤ k) ∧ Drawn0 w w')
 case atStart => exact ⟨(a1), (0), z4_, z4_, H', ⟨Nat.le_refl _⟩, z9_⟩
 case round =>
  clear H'
  try clear p2
  obtain ⟨x1_1, x5_1, rfl, rfl, HA, HK1, ⟨m1, rfl⟩⟩ := hrel
  obtain ⟨k1, rfl, H⟩ := rn_ (k := gk) HA (by rintro rfl; simp only [laws_heldPairS.l0])
  clear HA
  simp only [laws_heldPairS.l0] at H
  replace H := kd_ H; rcases H with ⟨c3b0, H⟩ | ⟨c3b0, H⟩
  ·replace H := kdn_ H; obtain ⟨c4b0, H⟩ := H
   replace H := ke_ H; rcases H with ⟨c5b0, c5b1, H⟩ | ⟨c5, c5b0, c5b1, H⟩
   ·replace H := ke_ H; rcases H with ⟨c6b0, c6b1, H⟩ | ⟨c6, c6b0, c6b1, H⟩
    ·have H' := q_ H
     clear H
     have p425 : 0 ≤ (x5_1 : Int) := of_decide_eq_true z2_
     have q425 : x5_1 < (l0.length : Int) := of_decide_eq_true z2_
     obtain ⟨ad425, e425, hx425_0, hx425_1⟩ := at_T92 HR0.out x5_1 p425 q425
     cases e425
     replace p425 := eq_true p425
     replace q425 := eq_true q425
     have p426 : 0 ≤ (x5_1 : Int) := of_decide_eq_true z2_
     have q426 : x5_1 < (l0.length : Int) := of_decide_eq_true z2_
     obtain ⟨ad426, e426, hx426_0, hx426_1⟩ := at_T92 HR0.out x5_1 p426 q426
     obtain rfl : ad425 = ad426 := (by injection e426)
     replace p426 := eq_true p426
     replace q426 := eq_true q426
     go_wp2
     go_roundg k1
     case measure => have := HK1.out; omega
     case rel => exact ⟨(wrap64 ((wrap64 (x1_1 + 1)) + 1)), (wrap64 (x5_1 + 1)), z4_, z4_, H', ⟨z27_⟩, z9_⟩
    ·obtain rfl := si_ H
     have p425 : 0 ≤ (x5_1 : Int) := of_decide_eq_true z2_
     have q425 : x5_1 < (l0.length : Int) := of_decide_eq_true z2_
     obtain ⟨ad425, e425, hx425_0, hx425_1⟩ := at_T92 HR0.out x5_1 p425 q425
     cases e425
     replace p425 := eq_true p425
     replace q425 := eq_true q425
     have p426 : 0 ≤ (x5_1 : Int) := of_decide_eq_true z2_
     have q426 : x5_1 < (l0.length : Int) := of_decide_eq_true z2_
     obtain ⟨ad426, e426, hx426_0, hx426_1⟩ := at_T92 HR0.out x5_1 p426 q426
     obtain rfl : ad425 = ad426 := (by injection e426)
     replace p426 := eq_true p426
     replace q426 := eq_true q426
     go_wp2
     go_ret
     exact ⟨z4_, z9_⟩
   ·obtain rfl := si_ H
    have p425 : 0 ≤ (x5_1 : Int) := of_decide_eq_true z2_
    have q425 : x5_1 < (l0.length : Int) := of_decide_eq_true z2_
    obtain ⟨ad425, e425, hx425_0, hx425_1⟩ := at_T92 HR0.out x5_1 p425 q425
    cases e425
    replace p425 := eq_true p425
    replace q425 := eq_true q425
    go_wp2
    go_ret
    exact ⟨z4_, z9_⟩
  ·obtain rfl := si_ H
   go_wp2
   go_ret
   exact ⟨z4_, z9_⟩

end Go.Proofs.Ytfnndcpaldkkoaa.PFnExactTreeMap
