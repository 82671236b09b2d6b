-- Written by a program of this session, which goes by the kit's print. Not trusted: Lean checks it.
import Derived.Test.YtfnndcpaldkkoaaPFnExactMachineSamex0
import Derived.Test.YtfnndcpaldkkoaaPFnExactMachineSamex1
import Derived.Test.YtfnndcpaldkkoaaPFnExactMachineSamex2
import Derived.Test.YtfnndcpaldkkoaaPFnExactMachineSamex15
import Derived.Test.YtfnndcpaldkkoaaPFnExactMachineSamex16
namespace Go.Proofs.Ytfnndcpaldkkoaa.PFnExactMachineSame
open Go.RowKit Go.Proofs.YtfnndcpaldkkoaaW.PrintWords Go.Proofs.YtfnndcpaldkkoaaW.PrintLast Go.Proofs.YtfnndcpaldkkoaaW.PrintMore
attribute [local go_sem] max2_int min2_int max_two min_two max_three min_three max_four min_four   -- for this text's walks alone
set_option linter.unusedVariables false
set_option linter.unusedSimpArgs false

attribute [local go_sem high] eqA92 eqA98
/-! ### impl_treeMap: function 84 -/
mutual
def impl_treeMap.l0 : Nat → List (S92) → List (S34) → Int → Int → Bool → List (S92) → List Int → List (S34) → List (S72) → Option ((List (S92)))
 | 0, _, _, _, _, _, _, _, _, _ => none
 | k + 1, x3, x14, x15, x16, x420000, x420001, x420002, x420003, x420004 => if x16 < x15 then (if 0 ≤ x16 then (if x16 < (x14.length : Int) then ((impl_treeMap.f k ((rd_T34 x14 x16).f0) ((rd_T34 x14 x16).f1) ((rd_T34 x14 x16).f2) ((rd_T34 x14 x16).f3) ((rd_T34 x14 x16).f4)).bind fun t431 => (if x3.length + t431.length < 8796093022208 then (impl_treeMap.l0 k (x3 ++ t431) x14 x15 (wrap64 (x16 + 1)) x420000 x420001 x420002 x420003 x420004) else (none))) else (none)) else (none)) else ((impl_MapAll.f k x3 x420004).bind fun t437 => (some t437))
def impl_treeMap.f : Nat → Bool → List (S92) → List Int → List (S34) → List (S72) → Option ((List (S92)))
 | 0, _, _, _, _, _ => none
 | k + 1, a0_0, l0_1, l0_2, l0_3, l0_4 => if a0_0 = true then ((some (([] : List (S92)) : List (S92))).bind fun y420 => (if y420.length + l0_1.length < 8796093022208 then (some (y420 ++ l0_1)) else (none))) else (impl_treeMap.l0 k (([] : List (S92))) l0_3 (l0_3.length : Int) 0 a0_0 l0_1 l0_2 l0_3 l0_4)
end
theorem impl_treeMap.mono_l : ∀ k, (∀ y0 y1 y2 y3 y4, LeO (impl_treeMap.f k y0 y1 y2 y3 y4) (impl_treeMap.f (k + 1) y0 y1 y2 y3 y4)) ∧ (∀ y0 y1 y2 y3 y4 y5 y6 y7 y8, LeO (impl_treeMap.l0 k y0 y1 y2 y3 y4 y5 y6 y7 y8) (impl_treeMap.l0 (k + 1) y0 y1 y2 y3 y4 y5 y6 y7 y8))
 | 0 => ⟨fun _ _ _ _ _ r h => by simp [impl_treeMap.f] at h, fun _ _ _ _ _ _ _ _ _ r h => by simp [impl_treeMap.l0] at h⟩
 | k + 1 => by
  obtain ⟨ih0, ih1⟩ := impl_treeMap.mono_l k
  refine ⟨?_, ?_⟩
  ·intro y0 y1 y2 y3 y4
   unfold impl_treeMap.f
   have m0 := @impl_MapAll.mono
   exact zm_
  ·intro y0 y1 y2 y3 y4 y5 y6 y7 y8
   unfold impl_treeMap.l0
   have m0 := @impl_MapAll.mono
   exact zm_
theorem impl_treeMap.mono : ∀ a0 a1 a2 a3 a4 k, LeO (impl_treeMap.f k a0 a1 a2 a3 a4) (impl_treeMap.f (k + 1) a0 a1 a2 a3 a4) := by
 intro a0 a1 a2 a3 a4 k
 obtain ⟨ih0, ih1⟩ := impl_treeMap.mono_l k
 exact ih0 a0 a1 a2 a3 a4
set_option maxHeartbeats 8000000 in
set_option maxRecDepth 100000 in
theorem impl_treeMap.calls (k : Nat) : ∀ (a0_0 : Bool) (A0_1 : Option Addr) (c0_1 : Nat) (l0_1 : List (S92)) (A0_2 : Option Addr) (c0_2 : Nat) (l0_2 : List Int) (A0_3 : Option Addr) (c0_3 : Nat) (l0_3 : List (S34)) (A0_4 : Option Addr) (c0_4 : Nat) (l0_4 : List (S72)) (r : List (S92)) (w : World) (hr0_1 : Kd.C k92 w A0_1 l0_1.length l0_1) (hc0_1 : l0_1.length ≤ c0_1) (hr0_2 : Kd.C (Kd.int .i64) w A0_2 l0_2.length l0_2) (hc0_2 : l0_2.length ≤ c0_2) (hr0_3 : Kd.C k34 w A0_3 l0_3.length l0_3) (hc0_3 : l0_3.length ≤ c0_3) (hr0_4 : Kd.C k72 w A0_4 l0_4.length l0_4) (hc0_4 : l0_4.length ≤ c0_4) (h : impl_treeMap.f k a0_0 l0_1 l0_2 l0_3 l0_4 = some r),
  Calls Try.prog 84 #[.agg #[.bool a0_0, .slice A0_1 l0_1.length c0_1, .slice A0_2 l0_2.length c0_2, .slice A0_3 l0_3.length c0_3, .slice A0_4 l0_4.length c0_4]] w fun e w' => ∃ v0_ : Value, e = .returned (v0_) ∧ Kd.R k92 92 w' w.heap.size (fun _ => True) v0_ r ∧ Below w.heap.size w w' := by
 induction k using Nat.strongRecOn with
 | _ k ih =>
 intro a0_0 A0_1 c0_1 l0_1 A0_2 c0_2 l0_2 A0_3 c0_3 l0_3 A0_4 c0_4 l0_4 r w hr0_1 hc0_1 hr0_2 hc0_2 hr0_3 hc0_3 hr0_4 hc0_4 h
 cases k with
 | zero => exact absurd h (by simp [impl_treeMap.f])
 | succ k =>
 simp only [impl_treeMap.f] at h
 have hu34 := Try.underlying34
 have HR0_1 := q_ hr0_1
 have HC0_1 := q_ hc0_1
 clear hr0_1 hc0_1
 have HR0_2 := q_ hr0_2
 have HC0_2 := q_ hc0_2
 clear hr0_2 hc0_2
 have HR0_3 := q_ hr0_3
 have HC0_3 := q_ hc0_3
 clear hr0_3 hc0_3
 have HR0_4 := q_ hr0_4
 have HC0_4 := q_ hc0_4
 clear hr0_4 hc0_4
 have HB := q_ (Below.refl w.heap.size w)
 have H := h; clear h
 have HC2 := q_ H
 clear H
 go_enter Try.func84, Try.ntmps84
 go_upto_if 7 with (first | ((with_reducible refine gate_dst (N := 1) rfl ?_); refine box_event ?hg (N := 1) ?hd (cs := #[.bool a0_0, .slice A0_1 l0_1.length c0_1, .slice A0_2 l0_2.length c0_2, .slice A0_3 l0_3.length c0_3, .slice A0_4 l0_4.length c0_4]) (t := 34) ?hr ?_; (case hd => rfl); (case hg => rfl); (case hr => exact z92_); intro gb419 hg w3 hbox hb; have BK419 := q_ (hbox); have GW419 := ge_ hg; have GE419 := ge_ hg; replace HB := hb_ hb; clear hb hbox hg; obtain ⟨hz_, hz_, hz_, hz_, hz_, hz_, hz_, hz_, hz_, hz_⟩ := cs5_ BK419.out))
 (try simp only [Act.put, List.setIfInBounds_toArray, List.set_cons_zero, List.set_cons_succ])
 have H := HC2.out
 clear HC2
 replace H := kb_ H; rcases H with ⟨rfl, H⟩ | ⟨rfl, H⟩
 ·obtain ⟨y420, hy_⟩ : ∃ y_ : List (S92), y_ = (([] : List (S92))) := ⟨_, rfl⟩
  replace H : (if y420.length + l0_1.length < 8796093022208 then (some (y420 ++ l0_1)) else (none)) = some r := z3_
  have Ny420 := q_ hy_
  clear hy_
  replace H := kln_ H; obtain ⟨LMc6, H⟩ := H
  obtain ⟨y423, hy_⟩ : ∃ y_ : List (S92), y_ = (y420 ++ l0_1) := ⟨_, rfl⟩
  replace H : (some y423) = some r := z3_
  have Ny423 := q_ hy_
  clear hy_
  obtain rfl := si_ H
  go_wp2_with (first | ((with_reducible refine gate_dst (N := 8) rfl ?_); refine Kd.R_lit k92 _ 92 ?hg (N := 8) ?hd (xs := ([] : List (S92))) (inner := []) (ok := fun _ => True) (okp := fun _ => True) ?hr ?hp (fun _ hk => hk) trivial (Below.refl _ _) (Nat.le_refl _) (by simp) ?_; (case hd => rfl); (case hg => rfl); (case hr => exact z92_); (case hp => exact z131_); intro v421 w7 ho8 hb hg_ hnew_; clear hg_ hnew_; (first | rw [← Ny420.out] at ho8 | (simp only [Int.reduceToNat] at ho8; rw [← Ny420.out] at ho8)); have HO422 := q_ (Kd.R_lower ho8 (below_size cb_)); replace BK419 := rb_ BK419 hb; replace HB := hb_ hb; clear hb ho8; obtain ⟨hz_, hz_, hz_, hz_, hz_, hz_, hz_, hz_, hz_, hz_⟩ := cs5_ BK419.out) | ((with_reducible refine gate_builtin (b := .append) (xs := #[.tmp 8, .tmp 10]) rfl ?_); at_builtin; refine Kd.R_append_rows k92 (w0 := w) w.heap.size rfl (.tmp 8) (.tmp 10) 30 92 (.agg #[(.int .i64 0), (.int .i64 0)]) 16 rfl Try.underlying30 info92 rfl (by decide) (by omega) v421 y420 l0_1 _ _ _ (fun _ => True) (fun _ => False) rfl rfl ?aO ?aR (fun _ _ h => h) (fun _ h => h.elim) ?aF ?aB ?aS ?aL ?_; (case aR => exact z90_); (case aB => exact cb_); (case aF => exact z129_); (case aO => exact (by (with_reducible repeat (first | apply Kd.R_alloc | apply Kd.R_drewN | apply Kd.R_drew)); exact HO422.out)); (case aS => exact z130_); (case aL => have := LMc6.out; omega); intro v424 w10 ho hb hg hat; rw [← Ny423.out] at ho; replace HB := q_ (hb); have HO425 := q_ (ho); clear HO422; clear ho hb hg hat))
  go_ret
  exact ⟨_, z1_, by (with_reducible repeat (first | apply Kd.R_alloc | apply Kd.R_drewN | apply Kd.R_drew)); exact HO425.out, cb_⟩
 ·obtain ⟨y426, hy_⟩ : ∃ y_ : List (S92), y_ = (([] : List (S92))) := ⟨_, rfl⟩
  replace H : (impl_treeMap.l0 k y426 l0_3 (l0_3.length : Int) 0 false l0_1 l0_2 l0_3 l0_4) = some r := z3_
  have Ny426 := q_ hy_
  clear hy_
  have H' := q_ H
  clear H
  go_wp2_with (first | ((with_reducible refine gate_dst (N := 12) rfl ?_); refine Kd.R_lit k92 _ 92 ?hg (N := 12) ?hd (xs := ([] : List (S92))) (inner := []) (ok := fun _ => True) (okp := fun _ => True) ?hr ?hp (fun _ hk => hk) trivial (Below.refl _ _) (Nat.le_refl _) (by simp) ?_; (case hd => rfl); (case hg => rfl); (case hr => exact z92_); (case hp => exact z131_); intro v427 w11 ho12 hb hg_ hnew_; clear hg_ hnew_; (first | rw [← Ny426.out] at ho12 | (simp only [Int.reduceToNat] at ho12; rw [← Ny426.out] at ho12)); have HO428 := q_ (Kd.R_lower ho12 (below_size cb_)); replace BK419 := rb_ BK419 hb; replace HB := hb_ hb; clear hb ho12; obtain ⟨hz_, hz_, hz_, hz_, hz_, hz_, hz_, hz_, hz_, hz_⟩ := cs5_ BK419.out))
  go_loopg [3, 16] k (fun kq v3 v16 w' => ∃ (x3_1 : List (S92)) (x16_1 : Int), v16 = .int .i64 x16_1 ∧ Aside0 (impl_treeMap.l0 kq x3_1 l0_3 (l0_3.length : Int) x16_1 false l0_1 l0_2 l0_3 l0_4 = some r) ∧ Aside0 (kq ≤ k) ∧ Aside0 (Kd.R k92 92 w' w.heap.size (fun _ => True) v3 x3_1) ∧ Aside0 (w'.heap[gb419]? = some (.cells #[.bool false, (.slice A0_1 l0_1.length c0_1), (.slice A0_2 l0_2.length c0_2), (.slice A0_3 l0_3.length c0_3), (.slice A0_4 l0_4.length c0_4)] 34 (0, 0))) ∧ Aside0 (Below w.heap.size w w'))
  case atStart => exact ⟨(y426), (0), z4_, H', ⟨Nat.le_refl _⟩, ⟨by (with_reducible repeat (first | apply Kd.R_alloc | apply Kd.R_drewN | apply Kd.R_drew)); exact HO428.out⟩, ⟨z67_⟩, ⟨cb_⟩⟩
  case round =>
   clear H'
   try clear p2
   try clear c5
   try clear c6
   try clear c8
   repeat clear hz_
   obtain ⟨x3_1, x16_1, rfl, HA, HK1, HO_3, BK419, HB⟩ := hrel
   obtain ⟨k1, rfl, H⟩ := rn_ (k := gk) HA (by rintro rfl; simp only [impl_treeMap.l0])
   clear HA
   simp only [impl_treeMap.l0] at H
   replace H := kd_ H; rcases H with ⟨c14b0, H⟩ | ⟨c14b0, H⟩
   ·(first | rw [c14b0] | rw [c14b1] | (simp only [i64_w, i32_w]; first | rw [c14b0] | rw [c14b1]) | rw [c14b2] | skip)
    replace H := kdn_ H; obtain ⟨c15b0, H⟩ := H
    replace H := kdn_ H; obtain ⟨c16b0, H⟩ := H
    replace H := bi_ H; obtain ⟨t431, A17, H⟩ := H
    replace H := kln_ H; obtain ⟨LMc18, H⟩ := H
    obtain ⟨y434, hy_⟩ : ∃ y_ : List (S92), y_ = (x3_1 ++ t431) := ⟨_, rfl⟩
    replace H : (impl_treeMap.l0 k1 y434 l0_3 (l0_3.length : Int) (wrap64 (x16_1 + 1)) false l0_1 l0_2 l0_3 l0_4) = some r := z3_
    have Ny434 := q_ hy_
    clear hy_
    have H' := q_ H
    clear H
    have p429 : 0 ≤ (x16_1 : Int) := of_decide_eq_true z2_
    have q429 : x16_1 < (l0_3.length : Int) := of_decide_eq_true z2_
    obtain ⟨ad429, A429_1, c429_1, A429_2, c429_2, A429_3, c429_3, A429_4, c429_4, e429, hx429_0, hx429_1, hx429_2, hx429_3, hx429_4, hl429_1, hi429_1, hl429_2, hi429_2, hl429_3, hi429_3, hl429_4, hi429_4⟩ := at_T34 HR0_3.out x16_1 p429 q429
    cases e429
    replace hx429_0 := up_ HB hx429_0
    replace hx429_1 := up_ HB hx429_1
    replace hx429_2 := up_ HB hx429_2
    replace hx429_3 := up_ HB hx429_3
    replace hx429_4 := up_ HB hx429_4
    have HR429_1 := q_ hi429_1
    have HC429_1 := q_ hl429_1
    clear hi429_1 hl429_1
    have HR429_2 := q_ hi429_2
    have HC429_2 := q_ hl429_2
    clear hi429_2 hl429_2
    have HR429_3 := q_ hi429_3
    have HC429_3 := q_ hl429_3
    clear hi429_3 hl429_3
    have HR429_4 := q_ hi429_4
    have HC429_4 := q_ hl429_4
    clear hi429_4 hl429_4
    replace p429 := eq_true p429
    replace q429 := eq_true q429
    go_wp2_with (first | ((with_reducible refine gate_dst (N := 5) rfl ?_); refine box_event ?hg (N := 5) ?hd (cs := #[.bool false, .slice none 0 0, .slice none 0 0, .slice none 0 0, .slice none 0 0]) (t := 34) ?hr ?_; (case hd => rfl); (case hg => rfl); (case hr => exact z92_); intro gb430 hg w19 hbox hb; replace HO_3 := q_ (Kd.R_below z7_ hb); have BK430 := q_ (hbox); have GW430 := ge_ hg; have GE430 := ge_ hg; replace HB := hb_ hb; have NB419_430 := nl_ hg BK419; have NB430_419 := nr_ hg BK419; replace BK419 := rb_ BK419 hb; clear hb hbox hg; have hnb20 := NB430_419.out; have hnc20 := NB419_430.out; obtain ⟨hz_, hz_, hz_, hz_, hz_, hz_, hz_, hz_, hz_, hz_⟩ := cs5_ BK430.out) | ((with_reducible refine gate_callee (f := 84) rfl ?_); refine goesL_ (some 22) rfl rfl Try.func84 (by kernel_rfl) rfl #[.agg #[.bool ((rd_T34 l0_3 x16_1).f0), .slice A429_1 ((rd_T34 l0_3 x16_1).f1).length c429_1, .slice A429_2 ((rd_T34 l0_3 x16_1).f2).length c429_2, .slice A429_3 ((rd_T34 l0_3 x16_1).f3).length c429_3, .slice A429_4 ((rd_T34 l0_3 x16_1).f4).length c429_4]] rfl z0_ ?_; (with_reducible refine (ih k1 z37_ ((rd_T34 l0_3 x16_1).f0) _ _ ((rd_T34 l0_3 x16_1).f1) _ _ ((rd_T34 l0_3 x16_1).f2) _ _ ((rd_T34 l0_3 x16_1).f3) _ _ ((rd_T34 l0_3 x16_1).f4) t431 _ ?side1 ?side2 ?side3 ?side4 ?side5 ?side6 ?side7 ?side8 A17.out).mono ?_); (case side1 => exact Kd.C_below HR429_1.out cb_); (case side2 => exact HC429_1.out); (case side3 => exact Kd.C_below HR429_2.out cb_); (case side4 => exact HC429_2.out); (case side5 => exact Kd.C_below HR429_3.out cb_); (case side6 => exact HC429_3.out); (case side7 => exact Kd.C_below HR429_4.out cb_); (case side8 => exact HC429_4.out); rintro e w22 ⟨v432, rfl, ho0, hb⟩; refine ⟨_, rfl, ?_⟩; have HO433 := q_ (Kd.R_lower (Kd.R_new' ho0 (Kd.R_lt (by (with_reducible repeat (first | apply Kd.R_alloc | apply Kd.R_drewN | apply Kd.R_drew)); exact (Kd.R_mono (Kd.R_far (p := ⟨gb430, 4, none⟩) (Kd.R_far (p := ⟨gb430, 3, none⟩) (Kd.R_far (p := ⟨gb430, 2, none⟩) (Kd.R_far (p := ⟨gb430, 1, none⟩) (Kd.R_far (p := ⟨gb430, 0, none⟩) (Kd.R_types HO_3.out BK430.out (by decide)) (fun _ hk => hk.2) (.bool ((rd_T34 l0_3 x16_1).f0))) (fun _ hk => hk.2) (.slice A429_1 ((rd_T34 l0_3 x16_1).f1).length c429_1)) (fun _ hk => hk.2) (.slice A429_2 ((rd_T34 l0_3 x16_1).f2).length c429_2)) (fun _ hk => hk.2) (.slice A429_3 ((rd_T34 l0_3 x16_1).f3).length c429_3)) (fun _ hk => hk.2) (.slice A429_4 ((rd_T34 l0_3 x16_1).f4).length c429_4)) (fun _ h_ => h_.1))))) (below_size cb_)); replace HO_3 := q_ (Kd.R_elder' (by (with_reducible repeat (first | apply Kd.R_alloc | apply Kd.R_drewN | apply Kd.R_drew)); exact (Kd.R_mono (Kd.R_far (p := ⟨gb430, 4, none⟩) (Kd.R_far (p := ⟨gb430, 3, none⟩) (Kd.R_far (p := ⟨gb430, 2, none⟩) (Kd.R_far (p := ⟨gb430, 1, none⟩) (Kd.R_far (p := ⟨gb430, 0, none⟩) (Kd.R_types HO_3.out BK430.out (by decide)) (fun _ hk => hk.2) (.bool ((rd_T34 l0_3 x16_1).f0))) (fun _ hk => hk.2) (.slice A429_1 ((rd_T34 l0_3 x16_1).f1).length c429_1)) (fun _ hk => hk.2) (.slice A429_2 ((rd_T34 l0_3 x16_1).f2).length c429_2)) (fun _ hk => hk.2) (.slice A429_3 ((rd_T34 l0_3 x16_1).f3).length c429_3)) (fun _ hk => hk.2) (.slice A429_4 ((rd_T34 l0_3 x16_1).f4).length c429_4)) (fun _ h_ => h_.1))) (Kd.R_base ho0) hb); replace BK419 := q_ (blk_below (g := gb419) (o := .cells #[.bool false, .slice A0_1 l0_1.length c0_1, .slice A0_2 l0_2.length c0_2, .slice (some ad429) l0_3.length c0_3, .slice A0_4 l0_4.length c0_4] 34 (0, 0)) (by (with_reducible repeat (first | refine blk_drewN ?_ _ | refine blk_drew ?_ | refine blk_alloc ?_ _)); refine blk_far ?_ NB419_430.out _; (with_reducible repeat (first | refine blk_drewN ?_ _ | refine blk_drew ?_ | refine blk_alloc ?_ _)); refine blk_far ?_ NB419_430.out _; (with_reducible repeat (first | refine blk_drewN ?_ _ | refine blk_drew ?_ | refine blk_alloc ?_ _)); refine blk_far ?_ NB419_430.out _; (with_reducible repeat (first | refine blk_drewN ?_ _ | refine blk_drew ?_ | refine blk_alloc ?_ _)); refine blk_far ?_ NB419_430.out _; (with_reducible repeat (first | refine blk_drewN ?_ _ | refine blk_drew ?_ | refine blk_alloc ?_ _)); refine blk_far ?_ NB419_430.out _; (with_reducible repeat (first | refine blk_drewN ?_ _ | refine blk_drew ?_ | refine blk_alloc ?_ _)); exact BK419.out) hb); replace BK430 := q_ (blk_below (g := gb430) (o := .cells #[.bool ((rd_T34 l0_3 x16_1).f0), .slice A429_1 ((rd_T34 l0_3 x16_1).f1).length c429_1, .slice A429_2 ((rd_T34 l0_3 x16_1).f2).length c429_2, .slice A429_3 ((rd_T34 l0_3 x16_1).f3).length c429_3, .slice A429_4 ((rd_T34 l0_3 x16_1).f4).length c429_4] 34 (0, 0)) (by (with_reducible repeat (first | refine blk_drewN ?_ _ | refine blk_drew ?_ | refine blk_alloc ?_ _)); refine blk_put (cs := #[.bool ((rd_T34 l0_3 x16_1).f0), .slice A429_1 ((rd_T34 l0_3 x16_1).f1).length c429_1, .slice A429_2 ((rd_T34 l0_3 x16_1).f2).length c429_2, .slice A429_3 ((rd_T34 l0_3 x16_1).f3).length c429_3, .slice none 0 0]) ?_ 4 _ rfl; (with_reducible repeat (first | refine blk_drewN ?_ _ | refine blk_drew ?_ | refine blk_alloc ?_ _)); refine blk_put (cs := #[.bool ((rd_T34 l0_3 x16_1).f0), .slice A429_1 ((rd_T34 l0_3 x16_1).f1).length c429_1, .slice A429_2 ((rd_T34 l0_3 x16_1).f2).length c429_2, .slice none 0 0, .slice none 0 0]) ?_ 3 _ rfl; (with_reducible repeat (first | refine blk_drewN ?_ _ | refine blk_drew ?_ | refine blk_alloc ?_ _)); refine blk_put (cs := #[.bool ((rd_T34 l0_3 x16_1).f0), .slice A429_1 ((rd_T34 l0_3 x16_1).f1).length c429_1, .slice none 0 0, .slice none 0 0, .slice none 0 0]) ?_ 2 _ rfl; (with_reducible repeat (first | refine blk_drewN ?_ _ | refine blk_drew ?_ | refine blk_alloc ?_ _)); refine blk_put (cs := #[.bool ((rd_T34 l0_3 x16_1).f0), .slice none 0 0, .slice none 0 0, .slice none 0 0, .slice none 0 0]) ?_ 1 _ rfl; (with_reducible repeat (first | refine blk_drewN ?_ _ | refine blk_drew ?_ | refine blk_alloc ?_ _)); refine blk_put (cs := #[.bool false, .slice none 0 0, .slice none 0 0, .slice none 0 0, .slice none 0 0]) ?_ 0 _ rfl; (with_reducible repeat (first | refine blk_drewN ?_ _ | refine blk_drew ?_ | refine blk_alloc ?_ _)); exact BK430.out) hb); replace HB := hb_ hb; (try clear hb); (try clear hb2); (try clear hk); (try clear hi); (try clear ho0); obtain ⟨Ao24, co24, eo24⟩ := Kd.R_slice HO433.out; subst eo24) | ((with_reducible refine gate_builtin (b := .append) (xs := #[.tmp 20, .tmp 22]) rfl ?_); at_builtin; refine Kd.R_append_rows k92 (w0 := w) w.heap.size rfl (.tmp 20) (.tmp 22) 30 92 (.agg #[(.int .i64 0), (.int .i64 0)]) 16 rfl Try.underlying30 info92 rfl (by decide) (by omega) u3 x3_1 t431 _ _ _ (fun k_ => some k_ ≠ (.slice Ao24 t431.length co24 : Value).ownBlock) (fun _ => False) rfl rfl ?aO ?aR (fun _ _ h => h) (fun _ h => h.elim) ?aF ?aB ?aS ?aL ?_; (case aR => repeat (first | exact (Kd.R_reads' HO433.out).2.2 | (with_reducible refine Kd.C_alloc ?_ _) | (with_reducible refine Kd.C_drewN ?_ _) | (with_reducible refine Kd.C_drew ?_))); (case aB => exact cb_); (case aF => exact (fun k_ hk => Kd.fresh' (Kd.R_lt z75_) k_ hk)); (case aO => exact z70_); (case aS => exact z130_); (case aL => have := LMc18.out; omega); intro v435 w23 ho hb hg hat; rw [← Ny434.out] at ho; replace BK419 := q_ (blk_grown (g := gb419) (o := .cells #[.bool false, .slice A0_1 l0_1.length c0_1, .slice A0_2 l0_2.length c0_2, .slice (some ad429) l0_3.length c0_3, .slice A0_4 l0_4.length c0_4] 34 (0, 0)) z67_ hg (Kd.R_ne HO_3.out BK419.out (by decide))); replace BK430 := q_ (blk_grown (g := gb430) (o := .cells #[.bool ((rd_T34 l0_3 x16_1).f0), .slice A429_1 ((rd_T34 l0_3 x16_1).f1).length c429_1, .slice A429_2 ((rd_T34 l0_3 x16_1).f2).length c429_2, .slice A429_3 ((rd_T34 l0_3 x16_1).f3).length c429_3, .slice A429_4 ((rd_T34 l0_3 x16_1).f4).length c429_4] 34 (0, 0)) (by (with_reducible repeat (first | refine blk_drewN ?_ _ | refine blk_drew ?_ | refine blk_alloc ?_ _)); exact BK430.out) hg (Kd.R_ne HO_3.out BK430.out (by decide))); replace HO433 := q_ (Kd.R_after (ok := (fun _ => True)) z75_ hg hat); replace HB := q_ (hb); have HO436 := q_ (ho); clear HO_3; clear ho hb hg hat))
    go_roundg k1
    case measure => have := HK1.out; omega
    case rel => exact ⟨(y434), (wrap64 (x16_1 + 1)), z4_, H', ⟨z37_⟩, ⟨by (with_reducible repeat (first | apply Kd.R_alloc | apply Kd.R_drewN | apply Kd.R_drew)); exact Kd.R_mono HO436.out (fun _ hk => trivial)⟩, ⟨z67_⟩, ⟨cb_⟩⟩
   ·(first | rw [c14b0] | rw [c14b1] | (simp only [i64_w, i32_w]; first | rw [c14b0] | rw [c14b1]) | rw [c14b2] | skip)
    replace H := bi_ H; obtain ⟨t437, A25, H⟩ := H
    obtain rfl := si_ H
    obtain ⟨hz_, hz_, hz_, hz_, hz_, hz_, hz_, hz_, hz_, hz_⟩ := cs5_ BK419.out
    obtain ⟨Ao27, co27, eo27⟩ := Kd.R_slice HO_3.out
    subst eo27
    go_wp2_with (first | ((with_reducible refine gate_callee (f := 82) rfl ?_); refine goesL_ (some 28) rfl rfl Try.func82 (by kernel_rfl) rfl #[.slice Ao27 x3_1.length co27, .slice A0_4 l0_4.length c0_4] rfl z0_ ?_; (with_reducible refine (impl_MapAll.calls k1 _ _ x3_1 _ _ l0_4 t437 _ ?side1 ?side2 ?side3 ?side4 A25.out).mono ?_); (case side1 => exact z128_); (case side2 => exact (Kd.R_reads' HO_3.out).2.1); (case side3 => exact z91_); (case side4 => exact z119_); rintro e w28 ⟨v438, rfl, ho0, hb⟩; refine ⟨_, rfl, ?_⟩; have HO439 := q_ (Kd.R_lower (Kd.R_new' ho0 (Kd.R_lt z7_)) (below_size cb_)); replace HO_3 := q_ (Kd.R_elder' z7_ (Kd.R_base ho0) hb); replace HB := hb_ hb; (try clear hb); (try clear hb2); (try clear hk); (try clear hi); (try clear ho0)))
    go_ret
    exact ⟨_, z1_, by (with_reducible repeat (first | apply Kd.R_alloc | apply Kd.R_drewN | apply Kd.R_drew)); exact Kd.R_mono HO439.out (fun _ hk => trivial), cb_⟩

/-! ### impl_TreeMap: function 37 -/
def impl_TreeMap.f (k : Nat) (a0_0 : Bool) (l0_1 : List (S92)) (l0_2 : List Int) (l0_3 : List (S34)) (l0_4 : List (S72)) : Option ((List (S92))) := (impl_TreeOk.f k a0_0 l0_1 l0_2 l0_3 l0_4).bind fun t441 => (if t441 = true then ((impl_treeMap.f k a0_0 l0_1 l0_2 l0_3 l0_4).bind fun t442 => (some t442)) else (some ([] : List (S92))))
theorem impl_TreeMap.mono : ∀ a0 a1 a2 a3 a4 k, LeO (impl_TreeMap.f k a0 a1 a2 a3 a4) (impl_TreeMap.f (k + 1) a0 a1 a2 a3 a4) := by
 intro a0 a1 a2 a3 a4 k
 unfold impl_TreeMap.f
 have m0 := @impl_TreeOk.mono
 have m1 := @impl_treeMap.mono
 exact zm_
set_option maxHeartbeats 8000000 in
set_option maxRecDepth 100000 in
theorem impl_TreeMap.calls (k : Nat) (a0_0 : Bool) (A0_1 : Option Addr) (c0_1 : Nat) (l0_1 : List (S92)) (A0_2 : Option Addr) (c0_2 : Nat) (l0_2 : List Int) (A0_3 : Option Addr) (c0_3 : Nat) (l0_3 : List (S34)) (A0_4 : Option Addr) (c0_4 : Nat) (l0_4 : List (S72)) (r : List (S92)) (w : World) (hr0_1 : Kd.C k92 w A0_1 l0_1.length l0_1) (hc0_1 : l0_1.length ≤ c0_1) (hr0_2 : Kd.C (Kd.int .i64) w A0_2 l0_2.length l0_2) (hc0_2 : l0_2.length ≤ c0_2) (hr0_3 : Kd.C k34 w A0_3 l0_3.length l0_3) (hc0_3 : l0_3.length ≤ c0_3) (hr0_4 : Kd.C k72 w A0_4 l0_4.length l0_4) (hc0_4 : l0_4.length ≤ c0_4) (h : impl_TreeMap.f k a0_0 l0_1 l0_2 l0_3 l0_4 = some r) :
  Calls Try.prog 37 #[.agg #[.bool a0_0, .slice A0_1 l0_1.length c0_1, .slice A0_2 l0_2.length c0_2, .slice A0_3 l0_3.length c0_3, .slice A0_4 l0_4.length c0_4]] w fun e w' => ∃ v0_ : Value, e = .returned (v0_) ∧ Kd.R k92 92 w' w.heap.size (fun _ => True) v0_ r ∧ Below w.heap.size w w' := by
 have hu34 := Try.underlying34
 have HR0_1 := q_ hr0_1
 have HC0_1 := q_ hc0_1
 clear hr0_1 hc0_1
 have HR0_2 := q_ hr0_2
 have HC0_2 := q_ hc0_2
 clear hr0_2 hc0_2
 have HR0_3 := q_ hr0_3
 have HC0_3 := q_ hc0_3
 clear hr0_3 hc0_3
 have HR0_4 := q_ hr0_4
 have HC0_4 := q_ hc0_4
 clear hr0_4 hc0_4
 have HB := q_ (Below.refl w.heap.size w)
 have H := h; clear h
 unfold impl_TreeMap.f at H
 replace H := bi_ H; obtain ⟨t441, A2, H⟩ := H
 have HC3 := q_ H
 clear H
 go_enter Try.func37, Try.ntmps37
 go_upto_if 5 with (first | ((with_reducible refine gate_dst (N := 1) rfl ?_); refine box_event ?hg (N := 1) ?hd (cs := #[.bool a0_0, .slice A0_1 l0_1.length c0_1, .slice A0_2 l0_2.length c0_2, .slice A0_3 l0_3.length c0_3, .slice A0_4 l0_4.length c0_4]) (t := 34) ?hr ?_; (case hd => rfl); (case hg => rfl); (case hr => exact z92_); intro gb440 hg w4 hbox hb; have BK440 := q_ (hbox); have GW440 := ge_ hg; have GE440 := ge_ hg; replace HB := hb_ hb; clear hb hbox hg; obtain ⟨hz_, hz_, hz_, hz_, hz_, hz_, hz_, hz_, hz_, hz_⟩ := cs5_ BK440.out) | ((with_reducible refine gate_callee (f := 21) rfl ?_); refine goesL_ (some 4) rfl rfl Try.func21 (by kernel_rfl) rfl #[.agg #[.bool a0_0, .slice A0_1 l0_1.length c0_1, .slice A0_2 l0_2.length c0_2, .slice A0_3 l0_3.length c0_3, .slice A0_4 l0_4.length c0_4]] rfl z0_ ?_; (with_reducible refine (impl_TreeOk.calls k a0_0 _ _ l0_1 _ _ l0_2 _ _ l0_3 _ _ l0_4 t441 _ ?side1 ?side2 ?side3 ?side4 ?side5 ?side6 ?side7 ?side8 A2.out).mono ?_); (case side1 => exact z90_); (case side2 => exact z115_); (case side3 => exact z93_); (case side4 => exact z121_); (case side5 => exact z94_); (case side6 => exact z122_); (case side7 => exact z91_); (case side8 => exact z119_); rintro e w6 ⟨rfl, hb⟩; refine ⟨_, rfl, ?_⟩; replace BK440 := rb_ BK440 hb; replace HB := hb_ hb; (try clear hb); (try clear hb2); (try clear hk); (try clear hi)))
 (try simp only [Act.put, List.setIfInBounds_toArray, List.set_cons_zero, List.set_cons_succ])
 have H := HC3.out
 clear HC3
 replace H := kb_ H; rcases H with ⟨rfl, H⟩ | ⟨rfl, H⟩
 ·replace H := bi_ H; obtain ⟨t442, A8, H⟩ := H
  obtain rfl := si_ H
  obtain ⟨hz_, hz_, hz_, hz_, hz_, hz_, hz_, hz_, hz_, hz_⟩ := cs5_ BK440.out
  go_wp2_with (first | ((with_reducible refine gate_callee (f := 84) rfl ?_); refine goesL_ (some 7) rfl rfl Try.func84 (by kernel_rfl) rfl #[.agg #[.bool a0_0, .slice A0_1 l0_1.length c0_1, .slice A0_2 l0_2.length c0_2, .slice A0_3 l0_3.length c0_3, .slice A0_4 l0_4.length c0_4]] rfl z0_ ?_; (with_reducible refine (impl_treeMap.calls k a0_0 _ _ l0_1 _ _ l0_2 _ _ l0_3 _ _ l0_4 t442 _ ?side1 ?side2 ?side3 ?side4 ?side5 ?side6 ?side7 ?side8 A8.out).mono ?_); (case side1 => exact z90_); (case side2 => exact z115_); (case side3 => exact z93_); (case side4 => exact z121_); (case side5 => exact z94_); (case side6 => exact z122_); (case side7 => exact z91_); (case side8 => exact z119_); rintro e w10 ⟨v443, rfl, ho0, hb⟩; refine ⟨_, rfl, ?_⟩; have HO444 := q_ (Kd.R_lower ho0 (below_size cb_)); replace HB := hb_ hb; (try clear hb); (try clear hb2); (try clear hk); (try clear hi); (try clear ho0)))
  go_ret
  exact ⟨_, z1_, by (with_reducible repeat (first | apply Kd.R_alloc | apply Kd.R_drewN | apply Kd.R_drew)); exact HO444.out, cb_⟩
 ·obtain rfl := si_ H
  go_wp2
  go_ret
  exact ⟨_, z1_, by first | exact Kd.R_nil _ _ _ _ _ | exact Kd.N_nil _ _ _ _ _ | exact Kd.V_nil _ _ _ _ _ | exact Kd.Q_nil _ _ _ _ _ | exact Kd.S_nil _ _ _ _ _, cb_⟩

/-! ### slices_Equal_Pair: function 89 -/
def slices_Equal_Pair.l0 : Nat → List (S92) → List (S92) → Int → Int → Option (Bool)
 | 0, _, _, _, _ => none
 | k + 1, x0, x1, x12, x13 => if x13 < x12 then (if 0 ≤ x13 then (if x13 < (x0.length : Int) then (if x13 < (x1.length : Int) then (if (!(((rd_T92 x0 x13).f0) == ((rd_T92 x1 x13).f0)) || (!(((rd_T92 x0 x13).f1) == ((rd_T92 x1 x13).f1)))) = true then (some false) else (slices_Equal_Pair.l0 k x0 x1 x12 (wrap64 (x13 + 1)))) else (none)) else (none)) else (none)) else (some true)
def slices_Equal_Pair.f (k : Nat) (l0 : List (S92)) (l1 : List (S92)) : Option (Bool) := if (l0.length : Int) = (l1.length : Int) then (slices_Equal_Pair.l0 k l0 l1 (l0.length : Int) 0) else (some false)
theorem slices_Equal_Pair.mono_l : ∀ k, (∀ y0 y1 y2 y3, LeO (slices_Equal_Pair.l0 k y0 y1 y2 y3) (slices_Equal_Pair.l0 (k + 1) y0 y1 y2 y3))
 | 0 => fun _ _ _ _ r h => by simp [slices_Equal_Pair.l0] at h
 | k + 1 => by
  have ih0 := slices_Equal_Pair.mono_l k
  ·intro y0 y1 y2 y3
   unfold slices_Equal_Pair.l0
   exact zm_
theorem slices_Equal_Pair.mono : ∀ a0 a1 k, LeO (slices_Equal_Pair.f k a0 a1) (slices_Equal_Pair.f (k + 1) a0 a1) := by
 intro a0 a1 k
 have ih0 := slices_Equal_Pair.mono_l k
 unfold slices_Equal_Pair.f
 exact zm_
set_option maxHeartbeats 8000000 in
set_option maxRecDepth 100000 in
theorem slices_Equal_Pair.calls (k : Nat) (A0 : Option Addr) (c0 : Nat) (l0 : List (S92)) (A1 : Option Addr) (c1 : Nat) (l1 : List (S92)) (r : Bool) (w : World) (hr0 : Kd.C k92 w A0 l0.length l0) (hc0 : l0.length ≤ c0) (hr1 : Kd.C k92 w A1 l1.length l1) (hc1 : l1.length ≤ c1) (h : slices_Equal_Pair.f k l0 l1 = some r) :
  Calls Try.prog 89 #[.slice A0 l0.length c0, .slice A1 l1.length c1] w fun e w' => e = .returned (.bool r) ∧ Drawn0 w w' := by
 have hu92 := Try.underlying92
 have HR0 := q_ hr0
 have HC0 := q_ hc0
 clear hr0 hc0
 have HR1 := q_ hr1
 have HC1 := q_ hc1
 clear hr1 hc1
 have H := h; clear h
 unfold slices_Equal_Pair.f at H
 by_cases c3 : (l0.length : Int) = (l1.length : Int)
 ·rw [if_pos c3] at H
  have c3b0 : ((l0.length : Int) == (l1.length : Int)) = true := beq_iff_eq.mpr c3
  have c3b1 : ((l0.length : Int) != (l1.length : Int)) = false := bne_eq_false_iff_eq.mpr c3
  have c3b2 : (l0.length == l1.length) = true := z45_
  clear c3
  have H' := q_ H
  clear H
  go_enter Try.func89, Try.ntmps89
  go_wp2
  repeat (go_quiet (fail); try go_wp2)
  go_loopg [13] k (fun kq v13 w' => ∃ (x13_1 : Int), v13 = .int .i64 x13_1 ∧ Aside0 (slices_Equal_Pair.l0 kq l0 l1 (l0.length : Int) x13_1 = some r) ∧ Aside0 (kq ≤ k) ∧ Drawn0 w w')
  case atStart => exact ⟨(0), z4_, H', ⟨Nat.le_refl _⟩, z6_⟩
  case round =>
   clear H'
   try clear c1
   try clear p2
   try clear c3
   try clear c3b0
   try clear c3b1
   try clear c3b2
   obtain ⟨x13_1, rfl, HA, HK1, ⟨m1, rfl⟩⟩ := hrel
   obtain ⟨k1, rfl, H⟩ := rn_ (k := gk) HA (by rintro rfl; simp only [slices_Equal_Pair.l0])
   clear HA
   simp only [slices_Equal_Pair.l0] at H
   replace H := kd_ H; rcases H with ⟨c4b0, H⟩ | ⟨c4b0, H⟩
   ·replace H := kdn_ H; obtain ⟨c5b0, H⟩ := H
    replace H := kdn_ H; obtain ⟨c6b0, H⟩ := H
    replace H := kdn_ H; obtain ⟨c7b0, H⟩ := H
    by_cases c8 : (!(((rd_T92 l0 x13_1).f0) == ((rd_T92 l1 x13_1).f0)) || (!(((rd_T92 l0 x13_1).f1) == ((rd_T92 l1 x13_1).f1)))) = true
    ·rw [if_pos c8] at H
     have c8b0 : (!(((rd_T92 l0 x13_1).f0) == ((rd_T92 l1 x13_1).f0)) || (!(((rd_T92 l0 x13_1).f1) == ((rd_T92 l1 x13_1).f1)))) = true := c8
     clear c8
     obtain rfl := si_ H
     have p445 : 0 ≤ (x13_1 : Int) := of_decide_eq_true z2_
     have q445 : x13_1 < (l0.length : Int) := of_decide_eq_true z2_
     obtain ⟨ad445, e445, hx445_0, hx445_1⟩ := at_T92 HR0.out x13_1 p445 q445
     cases e445
     replace p445 := eq_true p445
     replace q445 := eq_true q445
     have p446 : 0 ≤ (x13_1 : Int) := of_decide_eq_true z2_
     have q446 : x13_1 < (l1.length : Int) := of_decide_eq_true z2_
     obtain ⟨ad446, e446, hx446_0, hx446_1⟩ := at_T92 HR1.out x13_1 p446 q446
     cases e446
     replace p446 := eq_true p446
     replace q446 := eq_true q446
     go_wp2
     repeat (go_quiet (fail); try go_wp2)
     go_ret
     exact ⟨z4_, z6_⟩
    ·rw [if_neg c8] at H
     have c8b0 : (!(((rd_T92 l0 x13_1).f0) == ((rd_T92 l1 x13_1).f0)) || (!(((rd_T92 l0 x13_1).f1) == ((rd_T92 l1 x13_1).f1)))) = false := by simpa using c8
     clear c8
     have H' := q_ H
     clear H
     have p445 : 0 ≤ (x13_1 : Int) := of_decide_eq_true z2_
     have q445 : x13_1 < (l0.length : Int) := of_decide_eq_true z2_
     obtain ⟨ad445, e445, hx445_0, hx445_1⟩ := at_T92 HR0.out x13_1 p445 q445
     cases e445
     replace p445 := eq_true p445
     replace q445 := eq_true q445
     have p446 : 0 ≤ (x13_1 : Int) := of_decide_eq_true z2_
     have q446 : x13_1 < (l1.length : Int) := of_decide_eq_true z2_
     obtain ⟨ad446, e446, hx446_0, hx446_1⟩ := at_T92 HR1.out x13_1 p446 q446
     cases e446
     replace p446 := eq_true p446
     replace q446 := eq_true q446
     go_wp2
     repeat (go_quiet (fail); try go_wp2)
     go_roundg k1
     case measure => have := HK1.out; omega
     case rel => exact ⟨(wrap64 (x13_1 + 1)), z4_, H', ⟨z37_⟩, z6_⟩
   ·obtain rfl := si_ H
    go_wp2
    repeat (go_quiet (fail); try go_wp2)
    go_ret
    exact ⟨z4_, z6_⟩
 ·rw [if_neg c3] at H
  have c3b0 : ((l0.length : Int) == (l1.length : Int)) = false := beq_eq_false_iff_ne.mpr c3
  have c3b1 : ((l0.length : Int) != (l1.length : Int)) = true := bne_iff_ne.mpr c3
  have c3b2 : (l0.length == l1.length) = false := z45_
  obtain rfl := si_ H
  go_enter Try.func89, Try.ntmps89
  go_wp2
  repeat (go_quiet (fail); try go_wp2)
  go_ret
  exact ⟨z4_, z6_⟩

/-! ### slices_Equal_Done: function 90 -/
def slices_Equal_Done.l0 : Nat → List (S98) → List (S98) → Int → Int → Option (Bool)
 | 0, _, _, _, _ => none
 | k + 1, x0, x1, x12, x13 => if x13 < x12 then (if 0 ≤ x13 then (if x13 < (x0.length : Int) then (if x13 < (x1.length : Int) then (if (!(((rd_T98 x0 x13).f0) == ((rd_T98 x1 x13).f0)) || (!(((rd_T98 x0 x13).f1) == ((rd_T98 x1 x13).f1)) || (!(((rd_T98 x0 x13).f2) == ((rd_T98 x1 x13).f2)) || (!(((rd_T98 x0 x13).f3) == ((rd_T98 x1 x13).f3)))))) = true then (some false) else (slices_Equal_Done.l0 k x0 x1 x12 (wrap64 (x13 + 1)))) else (none)) else (none)) else (none)) else (some true)
def slices_Equal_Done.f (k : Nat) (l0 : List (S98)) (l1 : List (S98)) : Option (Bool) := if (l0.length : Int) = (l1.length : Int) then (slices_Equal_Done.l0 k l0 l1 (l0.length : Int) 0) else (some false)
theorem slices_Equal_Done.mono_l : ∀ k, (∀ y0 y1 y2 y3, LeO (slices_Equal_Done.l0 k y0 y1 y2 y3) (slices_Equal_Done.l0 (k + 1) y0 y1 y2 y3))
 | 0 => fun _ _ _ _ r h => by simp [slices_Equal_Done.l0] at h
 | k + 1 => by
  have ih0 := slices_Equal_Done.mono_l k
  ·intro y0 y1 y2 y3
   unfold slices_Equal_Done.l0
   exact zm_
theorem slices_Equal_Done.mono : ∀ a0 a1 k, LeO (slices_Equal_Done.f k a0 a1) (slices_Equal_Done.f (k + 1) a0 a1) := by
 intro a0 a1 k
 have ih0 := slices_Equal_Done.mono_l k
 unfold slices_Equal_Done.f
 exact zm_
set_option maxHeartbeats 8000000 in
set_option maxRecDepth 100000 in
theorem slices_Equal_Done.calls (k : Nat) (A0 : Option Addr) (c0 : Nat) (l0 : List (S98)) (A1 : Option Addr) (c1 : Nat) (l1 : List (S98)) (r : Bool) (w : World) (hr0 : Kd.C k98 w A0 l0.length l0) (hc0 : l0.length ≤ c0) (hr1 : Kd.C k98 w A1 l1.length l1) (hc1 : l1.length ≤ c1) (h : slices_Equal_Done.f k l0 l1 = some r) :
  Calls Try.prog 90 #[.slice A0 l0.length c0, .slice A1 l1.length c1] w fun e w' => e = .returned (.bool r) ∧ Drawn0 w w' := by
 have hu98 := Try.underlying98
 have HR0 := q_ hr0
 have HC0 := q_ hc0
 clear hr0 hc0
 have HR1 := q_ hr1
 have HC1 := q_ hc1
 clear hr1 hc1
 have H := h; clear h
 unfold slices_Equal_Done.f at H
 by_cases c3 : (l0.length : Int) = (l1.length : Int)
 ·rw [if_pos c3] at H
  have c3b0 : ((l0.length : Int) == (l1.length : Int)) = true := beq_iff_eq.mpr c3
  have c3b1 : ((l0.length : Int) != (l1.length : Int)) = false := bne_eq_false_iff_eq.mpr c3
  have c3b2 : (l0.length == l1.length) = true := z45_
  clear c3
  have H' := q_ H
  clear H
  go_enter Try.func90, Try.ntmps90
  go_wp2
  repeat (go_quiet (fail); try go_wp2)
  go_loopg [13] k (fun kq v13 w' => ∃ (x13_1 : Int), v13 = .int .i64 x13_1 ∧ Aside0 (slices_Equal_Done.l0 kq l0 l1 (l0.length : Int) x13_1 = some r) ∧ Aside0 (kq ≤ k) ∧ Drawn0 w w')
  case atStart => exact ⟨(0), z4_, H', ⟨Nat.le_refl _⟩, z6_⟩
  case round =>
   clear H'
   try clear c1
   try clear p2
   try clear c3
   try clear c3b0
   try clear c3b1
   try clear c3b2
   obtain ⟨x13_1, rfl, HA, HK1, ⟨m1, rfl⟩⟩ := hrel
   obtain ⟨k1, rfl, H⟩ := rn_ (k := gk) HA (by rintro rfl; simp only [slices_Equal_Done.l0])
   clear HA
   simp only [slices_Equal_Done.l0] at H
   replace H := kd_ H; rcases H with ⟨c4b0, H⟩ | ⟨c4b0, H⟩
   ·replace H := kdn_ H; obtain ⟨c5b0, H⟩ := H
    replace H := kdn_ H; obtain ⟨c6b0, H⟩ := H
    replace H := kdn_ H; obtain ⟨c7b0, H⟩ := H
    by_cases c8 : (!(((rd_T98 l0 x13_1).f0) == ((rd_T98 l1 x13_1).f0)) || (!(((rd_T98 l0 x13_1).f1) == ((rd_T98 l1 x13_1).f1)) || (!(((rd_T98 l0 x13_1).f2) == ((rd_T98 l1 x13_1).f2)) || (!(((rd_T98 l0 x13_1).f3) == ((rd_T98 l1 x13_1).f3)))))) = true
    ·rw [if_pos c8] at H
     have c8b0 : (!(((rd_T98 l0 x13_1).f0) == ((rd_T98 l1 x13_1).f0)) || (!(((rd_T98 l0 x13_1).f1) == ((rd_T98 l1 x13_1).f1)) || (!(((rd_T98 l0 x13_1).f2) == ((rd_T98 l1 x13_1).f2)) || (!(((rd_T98 l0 x13_1).f3) == ((rd_T98 l1 x13_1).f3)))))) = true := c8
     clear c8
     obtain rfl := si_ H
     have p447 : 0 ≤ (x13_1 : Int) := of_decide_eq_true z2_
     have q447 : x13_1 < (l0.length : Int) := of_decide_eq_true z2_
     obtain ⟨ad447, e447, hx447_0, hx447_1, hx447_2, hx447_3⟩ := at_T98 HR0.out x13_1 p447 q447
     cases e447
     replace p447 := eq_true p447
     replace q447 := eq_true q447
     have p448 : 0 ≤ (x13_1 : Int) := of_decide_eq_true z2_
     have q448 : x13_1 < (l1.length : Int) := of_decide_eq_true z2_
     obtain ⟨ad448, e448, hx448_0, hx448_1, hx448_2, hx448_3⟩ := at_T98 HR1.out x13_1 p448 q448
     cases e448
     replace p448 := eq_true p448
     replace q448 := eq_true q448
     go_wp2
     repeat (go_quiet (fail); try go_wp2)
     go_ret
     exact ⟨z4_, z6_⟩
    ·rw [if_neg c8] at H
     have c8b0 : (!(((rd_T98 l0 x13_1).f0) == ((rd_T98 l1 x13_1).f0)) || (!(((rd_T98 l0 x13_1).f1) == ((rd_T98 l1 x13_1).f1)) || (!(((rd_T98 l0 x13_1).f2) == ((rd_T98 l1 x13_1).f2)) || (!(((rd_T98 l0 x13_1).f3) == ((rd_T98 l1 x13_1).f3)))))) = false := by simpa using c8
     clear c8
     have H' := q_ H
     clear H
     have p447 : 0 ≤ (x13_1 : Int) := of_decide_eq_true z2_
     have q447 : x13_1 < (l0.length : Int) := of_decide_eq_true z2_
     obtain ⟨ad447, e447, hx447_0, hx447_1, hx447_2, hx447_3⟩ := at_T98 HR0.out x13_1 p447 q447
     cases e447
     replace p447 := eq_true p447
     replace q447 := eq_true q447
     have p448 : 0 ≤ (x13_1 : Int) := of_decide_eq_true z2_
     have q448 : x13_1 < (l1.length : Int) := of_decide_eq_true z2_
     obtain ⟨ad448, e448, hx448_0, hx448_1, hx448_2, hx448_3⟩ := at_T98 HR1.out x13_1 p448 q448
     cases e448
     replace p448 := eq_true p448
     replace q448 := eq_true q448
     go_wp2
     repeat (go_quiet (fail); try go_wp2)
     go_roundg k1
     case measure => have := HK1.out; omega
     case rel => exact ⟨(wrap64 (x13_1 + 1)), z4_, H', ⟨z37_⟩, z6_⟩
   ·obtain rfl := si_ H
    go_wp2
    repeat (go_quiet (fail); try go_wp2)
    go_ret
    exact ⟨z4_, z6_⟩
 ·rw [if_neg c3] at H
  have c3b0 : ((l0.length : Int) == (l1.length : Int)) = false := beq_eq_false_iff_ne.mpr c3
  have c3b1 : ((l0.length : Int) != (l1.length : Int)) = true := bne_iff_ne.mpr c3
  have c3b2 : (l0.length == l1.length) = false := z45_
  obtain rfl := si_ H
  go_enter Try.func90, Try.ntmps90
  go_wp2
  repeat (go_quiet (fail); try go_wp2)
  go_ret
  exact ⟨z4_, z6_⟩

end Go.Proofs.Ytfnndcpaldkkoaa.PFnExactMachineSame
