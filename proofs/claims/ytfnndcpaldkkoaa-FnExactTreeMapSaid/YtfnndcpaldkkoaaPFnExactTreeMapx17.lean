-- Written by a program of this session, which goes by the kit's print. Not trusted: Lean checks it.
import Derived.Test.YtfnndcpaldkkoaaPFnExactTreeMapx0
import Derived.Test.YtfnndcpaldkkoaaPFnExactTreeMapx1
import Derived.Test.YtfnndcpaldkkoaaPFnExactTreeMapx2
import Derived.Test.YtfnndcpaldkkoaaPFnExactTreeMapx3
import Derived.Test.YtfnndcpaldkkoaaPFnExactTreeMapx4
import Derived.Test.YtfnndcpaldkkoaaPFnExactTreeMapx5
import Derived.Test.YtfnndcpaldkkoaaPFnExactTreeMapx10
import Derived.Test.YtfnndcpaldkkoaaPFnExactTreeMapx16
namespace Go.Proofs.Ytfnndcpaldkkoaa.PFnExactTreeMap
open Go.RowKit Go.Proofs.YtfnndcpaldkkoaaW.PrintWords Go.Proofs.YtfnndcpaldkkoaaW.PrintLast Go.Proofs.YtfnndcpaldkkoaaW.PrintMore
attribute [local go_sem] Instr.field asAgg max2_int min2_int max_two min_two max_three min_three max_four min_four   -- for this text's walks alone
set_option linter.unusedVariables false
set_option linter.unusedSimpArgs false

/-! ### laws_FnExactTreeMap: function 10 -/
def laws_FnExactTreeMap.j0 : Nat → List (S92) → List (S92) → Bool → Bool → List (S107) → List Int → List (S27) → List (S109) → Option (Bool)
 | 0, _, _, _, _, _, _, _, _ => none
 | k + 1, x4, x6, x42, x428000, x428001, x428002, x428003, x428004 => if x42 = true then (some false) else ((laws_markPairS.f k x6 1).bind fun bt479 => ((laws_heldPairS.f k bt479.2 1).bind fun t481 => (if t481 < 0 then (some false) else (if t481 = bt479.1 then ((laws_toTree.f k x428000 x428001 x428002 x428003 x428004).bind fun bt482 => ((impl_TreeMap.f k bt482.1 bt482.2.1 bt482.2.2.1 bt482.2.2.2.1 bt482.2.2.2.2).bind fun t495 => ((laws_eqPairS.f k t495 x4).bind fun t498 => (if t498 = true then ((laws_heldPairS.f k bt479.2 1).bind fun t499 => (if t499 < 0 then (some false) else (if t499 = bt479.1 then (some true) else (some false)))) else (some false))))) else (some false)))))
def laws_FnExactTreeMap.f (k : Nat) (a0_0 : Bool) (l0_1 : List (S107)) (l0_2 : List Int) (l0_3 : List (S27)) (l0_4 : List (S109)) : Option (Bool) := (laws_szTree.f k a0_0 l0_1 l0_2 l0_3 l0_4 1048576).bind fun t428 => (if t428 < 0 then (some true) else ((laws_toTree.f k a0_0 l0_1 l0_2 l0_3 l0_4).bind fun bt429 => ((spec_TreeMap.f k bt429.1 bt429.2.1 bt429.2.2.1 bt429.2.2.2.1 bt429.2.2.2.2).bind fun t442 => ((laws_toTree.f k a0_0 l0_1 l0_2 l0_3 l0_4).bind fun bt445 => ((impl_TreeMap.f k bt445.1 bt445.2.1 bt445.2.2.1 bt445.2.2.2.1 bt445.2.2.2.2).bind fun t459 => ((laws_eqPairS.f k t459 t442).bind fun t462 => (if t462 = true then ((laws_toTree.f k a0_0 l0_1 l0_2 l0_3 l0_4).bind fun bt463 => ((laws_eqTree.f k bt445.1 bt445.2.1 bt445.2.2.1 bt445.2.2.2.1 bt445.2.2.2.2 bt463.1 bt463.2.1 bt463.2.2.1 bt463.2.2.2.1 bt463.2.2.2.2).bind fun t476 => (if t476 = true then ((laws_markTree.f bt445.1 bt445.2.1 bt445.2.2.1 bt445.2.2.2.1 bt445.2.2.2.2 1).bind fun t477 => (if t477 < 0 then (laws_FnExactTreeMap.j0 k t442 t459 true a0_0 l0_1 l0_2 l0_3 l0_4) else ((laws_eqPairS.f k t459 t442).bind fun t478 => (laws_FnExactTreeMap.j0 k t442 t459 (!t478) a0_0 l0_1 l0_2 l0_3 l0_4)))) else (some false)))) else (some false))))))))
theorem laws_FnExactTreeMap.mono_l : ∀ k, (∀ y0 y1 y2 y3 y4 y5 y6 y7, LeO (laws_FnExactTreeMap.j0 k y0 y1 y2 y3 y4 y5 y6 y7) (laws_FnExactTreeMap.j0 (k + 1) y0 y1 y2 y3 y4 y5 y6 y7))
 | 0 => fun _ _ _ _ _ _ _ _ r h => by simp [laws_FnExactTreeMap.j0] at h
 | k + 1 => by
  have ih0 := laws_FnExactTreeMap.mono_l k
  ·intro y0 y1 y2 y3 y4 y5 y6 y7
   unfold laws_FnExactTreeMap.j0
   have m0 := @impl_TreeMap.mono
   have m1 := @laws_eqPairS.mono
   have m2 := @laws_eqTree.mono
   have m3 := @laws_heldPairS.mono
   have m4 := @laws_markPairS.mono
   have m5 := @laws_szTree.mono
   have m6 := @laws_toTree.mono
   have m7 := @spec_TreeMap.mono
   exact zm_
theorem laws_FnExactTreeMap.mono : ∀ a0 a1 a2 a3 a4 k, LeO (laws_FnExactTreeMap.f k a0 a1 a2 a3 a4) (laws_FnExactTreeMap.f (k + 1) a0 a1 a2 a3 a4) := by
 intro a0 a1 a2 a3 a4 k
 have ih0 := laws_FnExactTreeMap.mono_l k
 unfold laws_FnExactTreeMap.f
 have m0 := @impl_TreeMap.mono
 have m1 := @laws_eqPairS.mono
 have m2 := @laws_eqTree.mono
 have m3 := @laws_heldPairS.mono
 have m4 := @laws_markPairS.mono
 have m5 := @laws_szTree.mono
 have m6 := @laws_toTree.mono
 have m7 := @spec_TreeMap.mono
 exact zm_
set_option maxHeartbeats 8000000 in
set_option maxRecDepth 100000 in
theorem laws_FnExactTreeMap.calls (k : Nat) (a0_0 : Bool) (A0_1 : Option Addr) (c0_1 : Nat) (l0_1 : List (S107)) (A0_2 : Option Addr) (c0_2 : Nat) (l0_2 : List Int) (A0_3 : Option Addr) (c0_3 : Nat) (l0_3 : List (S27)) (A0_4 : Option Addr) (c0_4 : Nat) (l0_4 : List (S109)) (r : Bool) (w : World) (hr0_1 : Kd.C k107 w A0_1 l0_1.length l0_1) (hc0_1 : l0_1.length ≤ c0_1) (hr0_2 : Kd.C (Kd.int .i64) w A0_2 l0_2.length l0_2) (hc0_2 : l0_2.length ≤ c0_2) (hr0_3 : Kd.C k27 w A0_3 l0_3.length l0_3) (hc0_3 : l0_3.length ≤ c0_3) (hr0_4 : Kd.C k109 w A0_4 l0_4.length l0_4) (hc0_4 : l0_4.length ≤ c0_4) (h : laws_FnExactTreeMap.f k a0_0 l0_1 l0_2 l0_3 l0_4 = some r) :
  Calls Try.prog 10 #[.agg #[.bool a0_0, .slice A0_1 l0_1.length c0_1, .slice A0_2 l0_2.length c0_2, .slice A0_3 l0_3.length c0_3, .slice A0_4 l0_4.length c0_4]] w fun e w' => e = .returned (.bool r) ∧ Below w.heap.size w w' := by
 have hu27 := Try.underlying27
 have hu34 := Try.underlying34
 have HR0_1 := q_ hr0_1
 have HC0_1 := q_ hc0_1
 clear hr0_1 hc0_1
 have HR0_2 := q_ hr0_2
 have HC0_2 := q_ hc0_2
 clear hr0_2 hc0_2
 have HR0_3 := q_ hr0_3
 have HC0_3 := q_ hc0_3
 clear hr0_3 hc0_3
 have HR0_4 := q_ hr0_4
 have HC0_4 := q_ hc0_4
 clear hr0_4 hc0_4
 have HB := q_ (Below.refl w.heap.size w)
 have H := h; clear h
 unfold laws_FnExactTreeMap.f at H
 replace H := bi_ H; obtain ⟨t428, A2, H⟩ := H
 have HC3 := q_ H
 clear H
 go_enter Try.func10, Try.ntmps10
 go_upto_if 15 with (first | ((with_reducible refine gate_dst (N := 1) rfl ?_); refine box_event ?hg (N := 1) ?hd (cs := #[.bool a0_0, .slice A0_1 l0_1.length c0_1, .slice A0_2 l0_2.length c0_2, .slice A0_3 l0_3.length c0_3, .slice A0_4 l0_4.length c0_4]) (t := 27) ?hr ?_; (case hd => rfl); (case hg => rfl); (case hr => exact z88_); intro gb427 hg w4 hbox hb; have BK427 := q_ (hbox); have GW427 := ge_ hg; have GE427 := ge_ hg; replace HB := hb_ hb; clear hb hbox hg; obtain ⟨hz_, hz_, hz_, hz_, hz_, hz_, hz_, hz_, hz_, hz_⟩ := cs5_ BK427.out) | ((with_reducible refine gate_callee (f := 15) rfl ?_); refine goesL_ (some 13) rfl rfl Try.func15 (by kernel_rfl) rfl #[.agg #[.bool a0_0, .slice A0_1 l0_1.length c0_1, .slice A0_2 l0_2.length c0_2, .slice A0_3 l0_3.length c0_3, .slice A0_4 l0_4.length c0_4], .int .i64 1048576] rfl z0_ ?_; (with_reducible refine (laws_szTree.calls k a0_0 _ _ l0_1 _ _ l0_2 _ _ l0_3 _ _ l0_4 1048576 t428 _ ?side1 ?side2 ?side3 ?side4 ?side5 ?side6 ?side7 ?side8 A2.out).mono ?_); (case side1 => exact z87_); (case side2 => exact z110_); (case side3 => exact z90_); (case side4 => exact HC0_2.out); (case side5 => exact z91_); (case side6 => exact HC0_3.out); (case side7 => exact z89_); (case side8 => exact HC0_4.out); rintro e w6 ⟨rfl, hb⟩; refine ⟨_, rfl, ?_⟩; replace BK427 := rb_ BK427 hb; replace HB := hb_ hb; (try clear hb); (try clear hb2); (try clear hk); (try clear hi)))
 (try simp only [Act.put, List.setIfInBounds_toArray, List.set_cons_zero, List.set_cons_succ])
 have H := HC3.out
 clear HC3
 replace H := kd_ H; rcases H with ⟨c7b0, H⟩ | ⟨c7b0, H⟩
 ·(first | rw [c7b0] | rw [c7b1] | (simp only [i64_w, i32_w]; first | rw [c7b0] | rw [c7b1]) | rw [c7b2] | skip)
  obtain rfl := si_ H
  go_wp2
  go_ret
  exact ⟨z1_, cb_⟩
 ·(first | rw [c7b0] | rw [c7b1] | (simp only [i64_w, i32_w]; first | rw [c7b0] | rw [c7b1]) | rw [c7b2] | skip)
  replace H := bi_ H; obtain ⟨⟨t429, t430, t433, t436, t439⟩, A8, H⟩ := H
  (try dsimp only at H)
  replace H := bi_ H; obtain ⟨t442, A9, H⟩ := H
  replace H := bi_ H; obtain ⟨⟨t445, t446, t449, t452, t455⟩, A10, H⟩ := H
  (try dsimp only at H)
  replace H := bi_ H; obtain ⟨t459, A11, H⟩ := H
  replace H := bi_ H; obtain ⟨t462, A12, H⟩ := H
  have HC13 := q_ H
  clear H
  obtain ⟨hz_, hz_, hz_, hz_, hz_, hz_, hz_, hz_, hz_, hz_⟩ := cs5_ BK427.out
  go_upto_if 26 with (first | ((with_reducible refine gate_callee (f := 17) rfl ?_); refine goesL_ (some 17) rfl rfl Try.func17 (by kernel_rfl) rfl #[.agg #[.bool a0_0, .slice A0_1 l0_1.length c0_1, .slice A0_2 l0_2.length c0_2, .slice A0_3 l0_3.length c0_3, .slice A0_4 l0_4.length c0_4]] rfl z0_ ?_; (with_reducible refine (laws_toTree.calls k a0_0 _ _ l0_1 _ _ l0_2 _ _ l0_3 _ _ l0_4 t429 t430 t433 t436 t439 _ ?side1 ?side2 ?side3 ?side4 ?side5 ?side6 ?side7 ?side8 A8.out).mono ?_); (case side1 => exact z87_); (case side2 => exact z110_); (case side3 => exact z90_); (case side4 => exact HC0_2.out); (case side5 => exact z91_); (case side6 => exact HC0_3.out); (case side7 => exact z89_); (case side8 => exact HC0_4.out); rintro e w15 ⟨v431, v434, v437, v440, rfl, ho0, ho1, ho2, ho3, hb⟩; refine ⟨_, rfl, ?_⟩; have HO432 := q_ (Kd.R_lower ho0 (below_size cb_)); have HO435 := q_ (Kd.R_lower ho1 (below_size cb_)); have HO438 := q_ (Kd.R_lower ho2 (below_size cb_)); have HO441 := q_ (Kd.R_lower ho3 (below_size cb_)); replace BK427 := rb_ BK427 hb; replace HB := hb_ hb; (try clear hb); (try clear hb2); (try clear hk); (try clear hi); (try clear ho0); (try clear ho1); (try clear ho2); (try clear ho3); obtain ⟨Ao16, co16, eo16⟩ := Kd.R_slice HO432.out; subst eo16; obtain ⟨Ao17, co17, eo17⟩ := Kd.R_slice HO435.out; subst eo17; obtain ⟨Ao18, co18, eo18⟩ := Kd.R_slice HO438.out; subst eo18; obtain ⟨Ao19, co19, eo19⟩ := Kd.R_slice HO441.out; subst eo19) | ((with_reducible refine gate_callee (f := 36) rfl ?_); refine goesL_ (some 18) rfl rfl Try.func36 (by kernel_rfl) rfl #[.agg #[.bool t429, .slice Ao16 t430.length co16, .slice Ao17 t433.length co17, .slice Ao18 t436.length co18, .slice Ao19 t439.length co19]] rfl z0_ ?_; (with_reducible refine (spec_TreeMap.calls k t429 _ _ t430 _ _ t433 _ _ t436 _ _ t439 t442 _ ?side1 ?side2 ?side3 ?side4 ?side5 ?side6 ?side7 ?side8 A9.out).mono ?_); (case side1 => repeat (first | exact (Kd.R_reads' HO432.out).2.2 | (with_reducible refine Kd.C_alloc ?_ _) | (with_reducible refine Kd.C_drewN ?_ _) | (with_reducible refine Kd.C_drew ?_))); (case side2 => exact (Kd.R_reads' HO432.out).2.1); (case side3 => repeat (first | exact (Kd.R_reads' HO435.out).2.2 | (with_reducible refine Kd.C_alloc ?_ _) | (with_reducible refine Kd.C_drewN ?_ _) | (with_reducible refine Kd.C_drew ?_))); (case side4 => exact (Kd.R_reads' HO435.out).2.1); (case side5 => repeat (first | exact (Kd.R_reads' HO438.out).2.2 | (with_reducible refine Kd.C_alloc ?_ _) | (with_reducible refine Kd.C_drewN ?_ _) | (with_reducible refine Kd.C_drew ?_))); (case side6 => exact (Kd.R_reads' HO438.out).2.1); (case side7 => repeat (first | exact (Kd.R_reads' HO441.out).2.2 | (with_reducible refine Kd.C_alloc ?_ _) | (with_reducible refine Kd.C_drewN ?_ _) | (with_reducible refine Kd.C_drew ?_))); (case side8 => exact (Kd.R_reads' HO441.out).2.1); rintro e w20 ⟨v443, rfl, ho0, hb⟩; refine ⟨_, rfl, ?_⟩; replace HO435 := q_ (Kd.R_below z21_ hb); replace HO438 := q_ (Kd.R_elder' z28_ (Kd.R_base ho0) hb); replace HO441 := q_ (Kd.R_below z22_ hb); have HO444 := q_ (Kd.R_lower (Kd.R_new' ho0 (Kd.R_lt z19_)) (below_size cb_)); replace HO432 := q_ (Kd.R_elder' z19_ (Kd.R_base ho0) hb); replace BK427 := rb_ BK427 hb; replace HB := hb_ hb; (try clear hb); (try clear hb2); (try clear hk); (try clear hi); (try clear ho0); obtain ⟨hz_, hz_, hz_, hz_, hz_, hz_, hz_, hz_, hz_, hz_⟩ := cs5_ BK427.out) | ((with_reducible refine gate_callee (f := 17) rfl ?_); refine goesL_ (some 20) rfl rfl Try.func17 (by kernel_rfl) rfl #[.agg #[.bool a0_0, .slice A0_1 l0_1.length c0_1, .slice A0_2 l0_2.length c0_2, .slice A0_3 l0_3.length c0_3, .slice A0_4 l0_4.length c0_4]] rfl z0_ ?_; (with_reducible refine (laws_toTree.calls k a0_0 _ _ l0_1 _ _ l0_2 _ _ l0_3 _ _ l0_4 t445 t446 t449 t452 t455 _ ?side1 ?side2 ?side3 ?side4 ?side5 ?side6 ?side7 ?side8 A10.out).mono ?_); (case side1 => exact z87_); (case side2 => exact z110_); (case side3 => exact z90_); (case side4 => exact HC0_2.out); (case side5 => exact z91_); (case side6 => exact HC0_3.out); (case side7 => exact z89_); (case side8 => exact HC0_4.out); rintro e w22 ⟨v447, v450, v453, v456, rfl, ho0, ho1, ho2, ho3, hb⟩; refine ⟨_, rfl, ?_⟩; have HO448 := q_ (Kd.R_lower (Kd.R_new' (Kd.R_new' ho0 (Kd.R_lt z19_)) (Kd.R_lt z24_)) (below_size cb_)); have HO451 := q_ (Kd.R_lower (Kd.R_new' ho1 (Kd.R_lt z21_)) (below_size cb_)); have HO454 := q_ (Kd.R_lower (Kd.R_new' (Kd.R_new' (Kd.R_new' (Kd.R_new' (Kd.R_new' ho2 (Kd.R_lt z19_)) (Kd.R_lt z21_)) (Kd.R_lt z28_)) (Kd.R_lt z22_)) (Kd.R_lt z24_)) (below_size cb_)); replace HO432 := q_ (Kd.R_elder' z19_ (Kd.R_base ho0) hb); replace HO435 := q_ (Kd.R_elder' z21_ (Kd.R_base ho1) hb); replace HO438 := q_ (Kd.R_mono (Kd.R_told (Kd.R_told (Kd.R_told (Kd.R_told (Kd.R_old z28_ hb) (Kd.R_base ho0)) (Kd.R_base ho1)) (Kd.R_base ho2)) (Kd.R_base ho3)) (fun _ h_ => h_.1)); replace HO444 := q_ (Kd.R_elder' z24_ (Kd.R_base ho0) hb); have HO457 := q_ (Kd.R_lower (Kd.R_new' ho3 (Kd.R_lt z22_)) (below_size cb_)); replace HO441 := q_ (Kd.R_elder' z22_ (Kd.R_base ho3) hb); replace BK427 := rb_ BK427 hb; replace HB := hb_ hb; (try clear hb); (try clear hb2); (try clear hk); (try clear hi); (try clear ho0); (try clear ho1); (try clear ho2); (try clear ho3)) | ((with_reducible refine gate_dst (N := 5) rfl ?_); refine box_event ?hg (N := 5) ?hd (cs := #[.bool false, .slice none 0 0, .slice none 0 0, .slice none 0 0, .slice none 0 0]) (t := 34) ?hr ?_; (case hd => rfl); (case hg => rfl); (case hr => exact z88_); intro gb458 hg w23 hbox hb; replace HO432 := q_ (Kd.R_below z19_ hb); replace HO435 := q_ (Kd.R_below z21_ hb); replace HO438 := q_ (Kd.R_below (Kd.R_elderB z28_ gb458 (Nat.le_of_eq hg.symm)) hb); replace HO441 := q_ (Kd.R_below z22_ hb); replace HO444 := q_ (Kd.R_below z24_ hb); replace HO448 := q_ (Kd.R_below z34_ hb); replace HO451 := q_ (Kd.R_below z35_ hb); replace HO454 := q_ (Kd.R_below (Kd.R_elderB z44_ gb458 (Nat.le_of_eq hg.symm)) hb); replace HO457 := q_ (Kd.R_below z36_ hb); have BK458 := q_ (hbox); have GW458 := ge_ hg; have GE458 := ge_ hg; replace HB := hb_ hb; have NB427_458 := nl_ hg BK427; have NB458_427 := nr_ hg BK427; replace BK427 := rb_ BK427 hb; clear hb hbox hg; have hnb24 := NB458_427.out; have hnc24 := NB427_458.out; obtain ⟨hz_, hz_, hz_, hz_, hz_, hz_, hz_, hz_, hz_, hz_⟩ := cs5_ BK458.out; obtain ⟨Ao26, co26, eo26⟩ := Kd.R_slice HO448.out; subst eo26; obtain ⟨Ao27, co27, eo27⟩ := Kd.R_slice HO451.out; subst eo27; obtain ⟨Ao28, co28, eo28⟩ := Kd.R_slice HO454.out; subst eo28; obtain ⟨Ao29, co29, eo29⟩ := Kd.R_slice HO457.out; subst eo29) | ((with_reducible refine gate_callee (f := 37) rfl ?_); refine goesL_ (some 22) rfl rfl Try.func37 (by kernel_rfl) rfl #[.agg #[.bool t445, .slice Ao26 t446.length co26, .slice Ao27 t449.length co27, .slice Ao28 t452.length co28, .slice Ao29 t455.length co29]] rfl z0_ ?_; (with_reducible refine (impl_TreeMap.calls k t445 _ _ t446 _ _ t449 _ _ t452 _ _ t455 t459 _ ?side1 ?side2 ?side3 ?side4 ?side5 ?side6 ?side7 ?side8 A11.out).mono ?_); (case side1 => refine (Kd.R_reads' (e := 92) (base := w.heap.size) (ok := fun k_ => ((True ∧ some k_ ≠ (.slice Ao16 t430.length co16 : Value).ownBlock) ∧ some k_ ≠ (v443 : Value).ownBlock)) (n := t446.length) (c := co26) ?_).2.2; exact (by (with_reducible repeat (first | apply Kd.R_alloc | apply Kd.R_drewN | apply Kd.R_drew)); exact (Kd.R_mono (Kd.R_far (p := ⟨gb458, 4, none⟩) (Kd.R_far (p := ⟨gb458, 3, none⟩) (Kd.R_far (p := ⟨gb458, 2, none⟩) (Kd.R_far (p := ⟨gb458, 1, none⟩) (Kd.R_far (p := ⟨gb458, 0, none⟩) (Kd.R_types HO448.out BK458.out (by decide)) (fun _ hk => hk.2) (.bool t445)) (fun _ hk => hk.2) (.slice Ao26 t446.length co26)) (fun _ hk => hk.2) (.slice Ao27 t449.length co27)) (fun _ hk => hk.2) (.slice Ao28 t452.length co28)) (fun _ hk => hk.2) (.slice Ao29 t455.length co29)) (fun _ h_ => h_.1)))); (case side2 => exact (Kd.R_reads' HO448.out).2.1); (case side3 => refine (Kd.R_reads' (e := 3) (base := w.heap.size) (ok := fun k_ => (True ∧ some k_ ≠ (.slice Ao17 t433.length co17 : Value).ownBlock)) (n := t449.length) (c := co27) ?_).2.2; exact (by (with_reducible repeat (first | apply Kd.R_alloc | apply Kd.R_drewN | apply Kd.R_drew)); exact (Kd.R_mono (Kd.R_far (p := ⟨gb458, 4, none⟩) (Kd.R_far (p := ⟨gb458, 3, none⟩) (Kd.R_far (p := ⟨gb458, 2, none⟩) (Kd.R_far (p := ⟨gb458, 1, none⟩) (Kd.R_far (p := ⟨gb458, 0, none⟩) (Kd.R_types HO451.out BK458.out (by decide)) (fun _ hk => hk.2) (.bool t445)) (fun _ hk => hk.2) (.slice Ao26 t446.length co26)) (fun _ hk => hk.2) (.slice Ao27 t449.length co27)) (fun _ hk => hk.2) (.slice Ao28 t452.length co28)) (fun _ hk => hk.2) (.slice Ao29 t455.length co29)) (fun _ h_ => h_.1)))); (case side4 => exact (Kd.R_reads' HO451.out).2.1); (case side5 => refine (Kd.R_reads' (e := 34) (base := w.heap.size) (ok := fun k_ => (((((((some k_ ≠ (.slice Ao26 t446.length co26 : Value).ownBlock ∧ (some k_ ≠ (.slice Ao27 t449.length co27 : Value).ownBlock ∧ some k_ ≠ (.slice Ao29 t455.length co29 : Value).ownBlock)) ∧ some k_ ≠ (.slice Ao16 t430.length co16 : Value).ownBlock) ∧ some k_ ≠ (.slice Ao17 t433.length co17 : Value).ownBlock) ∧ some k_ ≠ (.slice Ao18 t436.length co18 : Value).ownBlock) ∧ some k_ ≠ (.slice Ao19 t439.length co19 : Value).ownBlock) ∧ some k_ ≠ (v443 : Value).ownBlock) ∧ k_ ≠ gb458)) (n := t452.length) (c := co28) ?_).2.2; exact z20_); (case side6 => exact (Kd.R_reads' HO454.out).2.1); (case side7 => refine (Kd.R_reads' (e := 72) (base := w.heap.size) (ok := fun k_ => (True ∧ some k_ ≠ (.slice Ao19 t439.length co19 : Value).ownBlock)) (n := t455.length) (c := co29) ?_).2.2; exact (by (with_reducible repeat (first | apply Kd.R_alloc | apply Kd.R_drewN | apply Kd.R_drew)); exact (Kd.R_mono (Kd.R_far (p := ⟨gb458, 4, none⟩) (Kd.R_far (p := ⟨gb458, 3, none⟩) (Kd.R_far (p := ⟨gb458, 2, none⟩) (Kd.R_far (p := ⟨gb458, 1, none⟩) (Kd.R_far (p := ⟨gb458, 0, none⟩) (Kd.R_types HO457.out BK458.out (by decide)) (fun _ hk => hk.2) (.bool t445)) (fun _ hk => hk.2) (.slice Ao26 t446.length co26)) (fun _ hk => hk.2) (.slice Ao27 t449.length co27)) (fun _ hk => hk.2) (.slice Ao28 t452.length co28)) (fun _ hk => hk.2) (.slice Ao29 t455.length co29)) (fun _ h_ => h_.1)))); (case side8 => exact (Kd.R_reads' HO457.out).2.1); rintro e w30 ⟨v460, rfl, ho0, hb⟩; refine ⟨_, rfl, ?_⟩; replace HO435 := q_ (Kd.R_below (by (with_reducible repeat (first | apply Kd.R_alloc | apply Kd.R_drewN | apply Kd.R_drew)); exact (Kd.R_mono (Kd.R_far (p := ⟨gb458, 4, none⟩) (Kd.R_far (p := ⟨gb458, 3, none⟩) (Kd.R_far (p := ⟨gb458, 2, none⟩) (Kd.R_far (p := ⟨gb458, 1, none⟩) (Kd.R_far (p := ⟨gb458, 0, none⟩) (Kd.R_types HO435.out BK458.out (by decide)) (fun _ hk => hk.2) (.bool t445)) (fun _ hk => hk.2) (.slice Ao26 t446.length co26)) (fun _ hk => hk.2) (.slice Ao27 t449.length co27)) (fun _ hk => hk.2) (.slice Ao28 t452.length co28)) (fun _ hk => hk.2) (.slice Ao29 t455.length co29)) (fun _ h_ => h_.1))) hb); replace HO438 := q_ (Kd.R_elder' (by (with_reducible repeat (first | apply Kd.R_alloc | apply Kd.R_drewN | apply Kd.R_drew)); exact (Kd.R_mono (Kd.R_far (p := ⟨gb458, 4, none⟩) (Kd.R_far (p := ⟨gb458, 3, none⟩) (Kd.R_far (p := ⟨gb458, 2, none⟩) (Kd.R_far (p := ⟨gb458, 1, none⟩) (Kd.R_far (p := ⟨gb458, 0, none⟩) (Kd.R_mono HO438.out (fun k_ hk => (⟨hk, hk.2⟩ : _ ∧ k_ ≠ gb458))) (fun _ hk => hk.2) (.bool t445)) (fun _ hk => hk.2) (.slice Ao26 t446.length co26)) (fun _ hk => hk.2) (.slice Ao27 t449.length co27)) (fun _ hk => hk.2) (.slice Ao28 t452.length co28)) (fun _ hk => hk.2) (.slice Ao29 t455.length co29)) (fun _ h_ => h_.1))) (Kd.R_base ho0) hb); replace HO441 := q_ (Kd.R_below (by (with_reducible repeat (first | apply Kd.R_alloc | apply Kd.R_drewN | apply Kd.R_drew)); exact (Kd.R_mono (Kd.R_far (p := ⟨gb458, 4, none⟩) (Kd.R_far (p := ⟨gb458, 3, none⟩) (Kd.R_far (p := ⟨gb458, 2, none⟩) (Kd.R_far (p := ⟨gb458, 1, none⟩) (Kd.R_far (p := ⟨gb458, 0, none⟩) (Kd.R_types HO441.out BK458.out (by decide)) (fun _ hk => hk.2) (.bool t445)) (fun _ hk => hk.2) (.slice Ao26 t446.length co26)) (fun _ hk => hk.2) (.slice Ao27 t449.length co27)) (fun _ hk => hk.2) (.slice Ao28 t452.length co28)) (fun _ hk => hk.2) (.slice Ao29 t455.length co29)) (fun _ h_ => h_.1))) hb); replace HO451 := q_ (Kd.R_below (by (with_reducible repeat (first | apply Kd.R_alloc | apply Kd.R_drewN | apply Kd.R_drew)); exact (Kd.R_mono (Kd.R_far (p := ⟨gb458, 4, none⟩) (Kd.R_far (p := ⟨gb458, 3, none⟩) (Kd.R_far (p := ⟨gb458, 2, none⟩) (Kd.R_far (p := ⟨gb458, 1, none⟩) (Kd.R_far (p := ⟨gb458, 0, none⟩) (Kd.R_types HO451.out BK458.out (by decide)) (fun _ hk => hk.2) (.bool t445)) (fun _ hk => hk.2) (.slice Ao26 t446.length co26)) (fun _ hk => hk.2) (.slice Ao27 t449.length co27)) (fun _ hk => hk.2) (.slice Ao28 t452.length co28)) (fun _ hk => hk.2) (.slice Ao29 t455.length co29)) (fun _ h_ => h_.1))) hb); replace HO454 := q_ (Kd.R_elder' z20_ (Kd.R_base ho0) hb); replace HO457 := q_ (Kd.R_below (by (with_reducible repeat (first | apply Kd.R_alloc | apply Kd.R_drewN | apply Kd.R_drew)); exact (Kd.R_mono (Kd.R_far (p := ⟨gb458, 4, none⟩) (Kd.R_far (p := ⟨gb458, 3, none⟩) (Kd.R_far (p := ⟨gb458, 2, none⟩) (Kd.R_far (p := ⟨gb458, 1, none⟩) (Kd.R_far (p := ⟨gb458, 0, none⟩) (Kd.R_types HO457.out BK458.out (by decide)) (fun _ hk => hk.2) (.bool t445)) (fun _ hk => hk.2) (.slice Ao26 t446.length co26)) (fun _ hk => hk.2) (.slice Ao27 t449.length co27)) (fun _ hk => hk.2) (.slice Ao28 t452.length co28)) (fun _ hk => hk.2) (.slice Ao29 t455.length co29)) (fun _ h_ => h_.1))) hb); have HO461 := q_ (Kd.R_lower (Kd.R_new' (Kd.R_new' (Kd.R_new' ho0 (Kd.R_lt (by (with_reducible repeat (first | apply Kd.R_alloc | apply Kd.R_drewN | apply Kd.R_drew)); exact (Kd.R_mono (Kd.R_far (p := ⟨gb458, 4, none⟩) (Kd.R_far (p := ⟨gb458, 3, none⟩) (Kd.R_far (p := ⟨gb458, 2, none⟩) (Kd.R_far (p := ⟨gb458, 1, none⟩) (Kd.R_far (p := ⟨gb458, 0, none⟩) (Kd.R_types HO432.out BK458.out (by decide)) (fun _ hk => hk.2) (.bool t445)) (fun _ hk => hk.2) (.slice Ao26 t446.length co26)) (fun _ hk => hk.2) (.slice Ao27 t449.length co27)) (fun _ hk => hk.2) (.slice Ao28 t452.length co28)) (fun _ hk => hk.2) (.slice Ao29 t455.length co29)) (fun _ h_ => h_.1))))) (Kd.R_lt (by (with_reducible repeat (first | apply Kd.R_alloc | apply Kd.R_drewN | apply Kd.R_drew)); exact (Kd.R_mono (Kd.R_far (p := ⟨gb458, 4, none⟩) (Kd.R_far (p := ⟨gb458, 3, none⟩) (Kd.R_far (p := ⟨gb458, 2, none⟩) (Kd.R_far (p := ⟨gb458, 1, none⟩) (Kd.R_far (p := ⟨gb458, 0, none⟩) (Kd.R_types HO444.out BK458.out (by decide)) (fun _ hk => hk.2) (.bool t445)) (fun _ hk => hk.2) (.slice Ao26 t446.length co26)) (fun _ hk => hk.2) (.slice Ao27 t449.length co27)) (fun _ hk => hk.2) (.slice Ao28 t452.length co28)) (fun _ hk => hk.2) (.slice Ao29 t455.length co29)) (fun _ h_ => h_.1))))) (Kd.R_lt (by (with_reducible repeat (first | apply Kd.R_alloc | apply Kd.R_drewN | apply Kd.R_drew)); exact (Kd.R_mono (Kd.R_far (p := ⟨gb458, 4, none⟩) (Kd.R_far (p := ⟨gb458, 3, none⟩) (Kd.R_far (p := ⟨gb458, 2, none⟩) (Kd.R_far (p := ⟨gb458, 1, none⟩) (Kd.R_far (p := ⟨gb458, 0, none⟩) (Kd.R_types HO448.out BK458.out (by decide)) (fun _ hk => hk.2) (.bool t445)) (fun _ hk => hk.2) (.slice Ao26 t446.length co26)) (fun _ hk => hk.2) (.slice Ao27 t449.length co27)) (fun _ hk => hk.2) (.slice Ao28 t452.length co28)) (fun _ hk => hk.2) (.slice Ao29 t455.length co29)) (fun _ h_ => h_.1))))) (below_size cb_)); replace HO432 := q_ (Kd.R_elder' (by (with_reducible repeat (first | apply Kd.R_alloc | apply Kd.R_drewN | apply Kd.R_drew)); exact (Kd.R_mono (Kd.R_far (p := ⟨gb458, 4, none⟩) (Kd.R_far (p := ⟨gb458, 3, none⟩) (Kd.R_far (p := ⟨gb458, 2, none⟩) (Kd.R_far (p := ⟨gb458, 1, none⟩) (Kd.R_far (p := ⟨gb458, 0, none⟩) (Kd.R_types HO432.out BK458.out (by decide)) (fun _ hk => hk.2) (.bool t445)) (fun _ hk => hk.2) (.slice Ao26 t446.length co26)) (fun _ hk => hk.2) (.slice Ao27 t449.length co27)) (fun _ hk => hk.2) (.slice Ao28 t452.length co28)) (fun _ hk => hk.2) (.slice Ao29 t455.length co29)) (fun _ h_ => h_.1))) (Kd.R_base ho0) hb); replace HO444 := q_ (Kd.R_elder' (by (with_reducible repeat (first | apply Kd.R_alloc | apply Kd.R_drewN | apply Kd.R_drew)); exact (Kd.R_mono (Kd.R_far (p := ⟨gb458, 4, none⟩) (Kd.R_far (p := ⟨gb458, 3, none⟩) (Kd.R_far (p := ⟨gb458, 2, none⟩) (Kd.R_far (p := ⟨gb458, 1, none⟩) (Kd.R_far (p := ⟨gb458, 0, none⟩) (Kd.R_types HO444.out BK458.out (by decide)) (fun _ hk => hk.2) (.bool t445)) (fun _ hk => hk.2) (.slice Ao26 t446.length co26)) (fun _ hk => hk.2) (.slice Ao27 t449.length co27)) (fun _ hk => hk.2) (.slice Ao28 t452.length co28)) (fun _ hk => hk.2) (.slice Ao29 t455.length co29)) (fun _ h_ => h_.1))) (Kd.R_base ho0) hb); replace HO448 := q_ (Kd.R_elder' (by (with_reducible repeat (first | apply Kd.R_alloc | apply Kd.R_drewN | apply Kd.R_drew)); exact (Kd.R_mono (Kd.R_far (p := ⟨gb458, 4, none⟩) (Kd.R_far (p := ⟨gb458, 3, none⟩) (Kd.R_far (p := ⟨gb458, 2, none⟩) (Kd.R_far (p := ⟨gb458, 1, none⟩) (Kd.R_far (p := ⟨gb458, 0, none⟩) (Kd.R_types HO448.out BK458.out (by decide)) (fun _ hk => hk.2) (.bool t445)) (fun _ hk => hk.2) (.slice Ao26 t446.length co26)) (fun _ hk => hk.2) (.slice Ao27 t449.length co27)) (fun _ hk => hk.2) (.slice Ao28 t452.length co28)) (fun _ hk => hk.2) (.slice Ao29 t455.length co29)) (fun _ h_ => h_.1))) (Kd.R_base ho0) hb); replace BK427 := q_ (blk_below (g := gb427) (o := .cells #[.bool a0_0, .slice A0_1 l0_1.length c0_1, .slice A0_2 l0_2.length c0_2, .slice A0_3 l0_3.length c0_3, .slice A0_4 l0_4.length c0_4] 27 (0, 0)) (by (with_reducible repeat (first | refine blk_drewN ?_ _ | refine blk_drew ?_ | refine blk_alloc ?_ _)); refine blk_far ?_ NB427_458.out _; (with_reducible repeat (first | refine blk_drewN ?_ _ | refine blk_drew ?_ | refine blk_alloc ?_ _)); refine blk_far ?_ NB427_458.out _; (with_reducible repeat (first | refine blk_drewN ?_ _ | refine blk_drew ?_ | refine blk_alloc ?_ _)); refine blk_far ?_ NB427_458.out _; (with_reducible repeat (first | refine blk_drewN ?_ _ | refine blk_drew ?_ | refine blk_alloc ?_ _)); refine blk_far ?_ NB427_458.out _; (with_reducible repeat (first | refine blk_drewN ?_ _ | refine blk_drew ?_ | refine blk_alloc ?_ _)); refine blk_far ?_ NB427_458.out _; (with_reducible repeat (first | refine blk_drewN ?_ _ | refine blk_drew ?_ | refine blk_alloc ?_ _)); exact BK427.out) hb); replace BK458 := q_ (blk_below (g := gb458) (o := .cells #[.bool t445, .slice Ao26 t446.length co26, .slice Ao27 t449.length co27, .slice Ao28 t452.length co28, .slice Ao29 t455.length co29] 34 (0, 0)) (by (with_reducible repeat (first | refine blk_drewN ?_ _ | refine blk_drew ?_ | refine blk_alloc ?_ _)); refine blk_put (cs := #[.bool t445, .slice Ao26 t446.length co26, .slice Ao27 t449.length co27, .slice Ao28 t452.length co28, .slice none 0 0]) ?_ 4 _ rfl; (with_reducible repeat (first | refine blk_drewN ?_ _ | refine blk_drew ?_ | refine blk_alloc ?_ _)); refine blk_put (cs := #[.bool t445, .slice Ao26 t446.length co26, .slice Ao27 t449.length co27, .slice none 0 0, .slice none 0 0]) ?_ 3 _ rfl; (with_reducible repeat (first | refine blk_drewN ?_ _ | refine blk_drew ?_ | refine blk_alloc ?_ _)); refine blk_put (cs := #[.bool t445, .slice Ao26 t446.length co26, .slice none 0 0, .slice none 0 0, .slice none 0 0]) ?_ 2 _ rfl; (with_reducible repeat (first | refine blk_drewN ?_ _ | refine blk_drew ?_ | refine blk_alloc ?_ _)); refine blk_put (cs := #[.bool t445, .slice none 0 0, .slice none 0 0, .slice none 0 0, .slice none 0 0]) ?_ 1 _ rfl; (with_reducible repeat (first | refine blk_drewN ?_ _ | refine blk_drew ?_ | refine blk_alloc ?_ _)); refine blk_put (cs := #[.bool false, .slice none 0 0, .slice none 0 0, .slice none 0 0, .slice none 0 0]) ?_ 0 _ rfl; (with_reducible repeat (first | refine blk_drewN ?_ _ | refine blk_drew ?_ | refine blk_alloc ?_ _)); exact BK458.out) hb); replace HB := hb_ hb; (try clear hb); (try clear hb2); (try clear hk); (try clear hi); (try clear ho0); obtain ⟨Ao31, co31, eo31⟩ := Kd.R_slice HO461.out; subst eo31; obtain ⟨Ao32, co32, eo32⟩ := Kd.R_slice HO444.out; subst eo32) | ((with_reducible refine gate_callee (f := 38) rfl ?_); refine goesL_ (some 25) rfl rfl Try.func38 (by kernel_rfl) rfl #[.slice Ao31 t459.length co31, .slice Ao32 t442.length co32] rfl z0_ ?_; (with_reducible refine (laws_eqPairS.calls k _ _ t459 _ _ t442 t462 _ ?side1 ?side2 ?side3 ?side4 A12.out).mono ?_); (case side1 => exact z112_); (case side2 => exact (Kd.R_reads' HO461.out).2.1); (case side3 => exact z113_); (case side4 => exact (Kd.R_reads' HO444.out).2.1); rintro e w33 ⟨rfl, hb⟩; refine ⟨_, rfl, ?_⟩; replace HO432 := q_ (Kd.R_below z19_ hb); replace HO435 := q_ (Kd.R_below z21_ hb); replace HO438 := q_ (Kd.R_below z28_ hb); replace HO441 := q_ (Kd.R_below z22_ hb); replace HO444 := q_ (Kd.R_below z24_ hb); replace HO448 := q_ (Kd.R_below z34_ hb); replace HO451 := q_ (Kd.R_below z35_ hb); replace HO454 := q_ (Kd.R_below z44_ hb); replace HO457 := q_ (Kd.R_below z36_ hb); replace HO461 := q_ (Kd.R_below z37_ hb); replace BK427 := rb_ BK427 hb; replace BK458 := rb_ BK458 hb; replace HB := hb_ hb; (try clear hb); (try clear hb2); (try clear hk); (try clear hi)))
  (try simp only [Act.put, List.setIfInBounds_toArray, List.set_cons_zero, List.set_cons_succ])
  have H := HC13.out
  clear HC13
  replace H := kb_ H; rcases H with ⟨rfl, H⟩ | ⟨rfl, H⟩
  ·replace H := bi_ H; obtain ⟨⟨t463, t464, t467, t470, t473⟩, A35, H⟩ := H
   (try dsimp only at H)
   replace H := bi_ H; obtain ⟨t476, A36, H⟩ := H
   have HC37 := q_ H
   clear H
   try go_wp2
   replace HO432 := q_ (Kd.R_drew HO432.out)
   replace HO435 := q_ (Kd.R_drew HO435.out)
   replace HO438 := q_ (Kd.R_drew HO438.out)
   replace HO441 := q_ (Kd.R_drew HO441.out)
   replace HO444 := q_ (Kd.R_drew HO444.out)
   replace HO448 := q_ (Kd.R_drew HO448.out)
   replace HO451 := q_ (Kd.R_drew HO451.out)
   replace HO454 := q_ (Kd.R_drew HO454.out)
   replace HO457 := q_ (Kd.R_drew HO457.out)
   replace HO461 := q_ (Kd.R_drew HO461.out)
   replace BK427 := q_ (blk_drew BK427.out)
   replace BK458 := q_ (blk_drew BK458.out)
   replace HB := q_ (below_drew1 HB.out)
   refine start_ (n := 5) (S := fun w' => w'.cell? ⟨gb458, 0, none⟩ = some (.bool t445) ∧ w'.cell? ⟨gb458, 1, none⟩ = some (.slice Ao26 t446.length co26) ∧ w'.cell? ⟨gb458, 2, none⟩ = some (.slice Ao27 t449.length co27) ∧ w'.cell? ⟨gb458, 3, none⟩ = some (.slice Ao28 t452.length co28) ∧ w'.cell? ⟨gb458, 4, none⟩ = some (.slice Ao29 t455.length co29) ∧ w'.cell? ⟨gb427, 0, none⟩ = some (.bool a0_0) ∧ w'.cell? ⟨gb427, 1, none⟩ = some (.slice A0_1 l0_1.length c0_1) ∧ w'.cell? ⟨gb427, 2, none⟩ = some (.slice A0_2 l0_2.length c0_2) ∧ w'.cell? ⟨gb427, 3, none⟩ = some (.slice A0_3 l0_3.length c0_3) ∧ w'.cell? ⟨gb427, 4, none⟩ = some (.slice A0_4 l0_4.length c0_4)) (ds := []) (tf 0 5) (by kernel_rfl) rfl rfl ⟨(blk_cell BK458.out 0).trans rfl, (blk_cell BK458.out 1).trans rfl, (blk_cell BK458.out 2).trans rfl, (blk_cell BK458.out 3).trans rfl, (blk_cell BK458.out 4).trans rfl, (blk_cell BK427.out 0).trans rfl, (blk_cell BK427.out 1).trans rfl, (blk_cell BK427.out 2).trans rfl, (blk_cell BK427.out 3).trans rfl, (blk_cell BK427.out 4).trans rfl⟩ (fun hHeld => ?_)
   generalize w33.drew = w38 at HO432 HO435 HO438 HO441 HO444 HO448 HO451 HO454 HO457 HO461 BK427 BK458 HB hHeld ⊢
   refine take_ (i := 0) (N := some 27) (v := ?_) (a' := ?_) (tf 1 4) rfl rfl (by kernel_rfl) (fun _ _ _ h => h) (Or.inl ⟨by rfl, ?_⟩) hHeld ?_ ?_
   rotate_left
   ·rintro w' ⟨s0, s1, s2, s3, s4, s5, s6, s7, s8, s9⟩
    go_simp
    with_reducible rfl
   rotate_left
   ·simp only [Act.put, List.setIfInBounds_toArray, List.set_cons_zero, List.set_cons_succ, i64_w, i32_w]
    rfl
   refine take_ (i := 1) (N := some 28) (v := ?_) (a' := ?_) (tf 2 3) rfl rfl (by kernel_rfl) (fun _ _ _ h => h) (Or.inl ⟨by rfl, ?_⟩) hHeld ?_ ?_
   rotate_left
   ·rintro w' ⟨s0, s1, s2, s3, s4, s5, s6, s7, s8, s9⟩
    go_simp
    with_reducible rfl
   rotate_left
   ·simp only [Act.put, List.setIfInBounds_toArray, List.set_cons_zero, List.set_cons_succ, i64_w, i32_w]
    rfl
   refine one_ (i := 2) (N := some 29) (tf 3 2) rfl rfl (by kernel_rfl) (by decide) (fun K hK => ?_)
   refine goes_ Try.func17 (by kernel_rfl) rfl #[.agg #[.bool a0_0, .slice A0_1 l0_1.length c0_1, .slice A0_2 l0_2.length c0_2, .slice A0_3 l0_3.length c0_3, .slice A0_4 l0_4.length c0_4]] (by rfl) rfl rfl z0_ ?_
   with_reducible refine (laws_toTree.calls k a0_0 _ _ l0_1 _ _ l0_2 _ _ l0_3 _ _ l0_4 t463 t464 t467 t470 t473 _ ?side1 ?side2 ?side3 ?side4 ?side5 ?side6 ?side7 ?side8 A35.out).mono ?_
   (case side1 => exact z87_)
   (case side2 => exact z110_)
   (case side3 => exact z90_)
   (case side4 => exact HC0_2.out)
   (case side5 => exact z91_)
   (case side6 => exact HC0_3.out)
   (case side7 => exact z89_)
   (case side8 => exact HC0_4.out)
   rintro e w39 ⟨v465, v468, v471, v474, rfl, ho0, ho1, ho2, ho3, hb⟩
   refine ⟨_, rfl, ?_⟩
   have HO466 := q_ (Kd.R_lower (Kd.R_new' (Kd.R_new' (Kd.R_new' (Kd.R_new' ho0 (Kd.R_lt z19_)) (Kd.R_lt z24_)) (Kd.R_lt z34_)) (Kd.R_lt z37_)) (below_size cb_))
   have HO469 := q_ (Kd.R_lower (Kd.R_new' (Kd.R_new' ho1 (Kd.R_lt z21_)) (Kd.R_lt z35_)) (below_size cb_))
   have HO472 := q_ (Kd.R_lower (Kd.R_newB (Kd.R_new' (Kd.R_new' (Kd.R_new' (Kd.R_new' (Kd.R_new' (Kd.R_new' (Kd.R_new' (Kd.R_new' (Kd.R_new' (Kd.R_new' ho2 (Kd.R_lt z19_)) (Kd.R_lt z21_)) (Kd.R_lt z28_)) (Kd.R_lt z22_)) (Kd.R_lt z24_)) (Kd.R_lt z34_)) (Kd.R_lt z35_)) (Kd.R_lt z44_)) (Kd.R_lt z36_)) (Kd.R_lt z37_)) (g := gb458) (o := .cells #[.bool t445, .slice Ao26 t446.length co26, .slice Ao27 t449.length co27, .slice Ao28 t452.length co28, .slice Ao29 t455.length co29] 34 (0, 0)) z64_) (below_size cb_))
   replace HO432 := q_ (Kd.R_elder' z19_ (Kd.R_base ho0) hb)
   replace HO435 := q_ (Kd.R_elder' z21_ (Kd.R_base ho1) hb)
   replace HO438 := q_ (Kd.R_mono (Kd.R_told (Kd.R_told (Kd.R_told (Kd.R_told (Kd.R_old z28_ hb) (Kd.R_base ho0)) (Kd.R_base ho1)) (Kd.R_base ho2)) (Kd.R_base ho3)) (fun _ h_ => h_.1))
   replace HO444 := q_ (Kd.R_elder' z24_ (Kd.R_base ho0) hb)
   replace HO448 := q_ (Kd.R_elder' z34_ (Kd.R_base ho0) hb)
   replace HO451 := q_ (Kd.R_elder' z35_ (Kd.R_base ho1) hb)
   replace HO454 := q_ (Kd.R_mono (Kd.R_told (Kd.R_told (Kd.R_told (Kd.R_told (Kd.R_old z44_ hb) (Kd.R_base ho0)) (Kd.R_base ho1)) (Kd.R_base ho2)) (Kd.R_base ho3)) (fun _ h_ => h_.1))
   replace HO461 := q_ (Kd.R_elder' z37_ (Kd.R_base ho0) hb)
   have HO475 := q_ (Kd.R_lower (Kd.R_new' (Kd.R_new' ho3 (Kd.R_lt z22_)) (Kd.R_lt z36_)) (below_size cb_))
   replace HO441 := q_ (Kd.R_elder' z22_ (Kd.R_base ho3) hb)
   replace HO457 := q_ (Kd.R_elder' z36_ (Kd.R_base ho3) hb)
   replace BK427 := rb_ BK427 hb
   replace BK458 := rb_ BK458 hb
   replace HB := hb_ hb
   (try clear hb)
   (try clear hb2)
   (try clear hk)
   (try clear hi)
   (try clear ho0)
   (try clear ho1)
   (try clear ho2)
   (try clear ho3)
   obtain ⟨Ao40, co40, eo40⟩ := Kd.R_slice HO466.out
   (first | subst eo40 | (injection eo40 with f1_ f2_ f3_; have f4_ := f1_.symm; have f5_ := f3_.symm; clear f1_ f2_ f3_; subst f4_; subst f5_))
   obtain ⟨Ao41, co41, eo41⟩ := Kd.R_slice HO469.out
   (first | subst eo41 | (injection eo41 with f1_ f2_ f3_; have f4_ := f1_.symm; have f5_ := f3_.symm; clear f1_ f2_ f3_; subst f4_; subst f5_))
   obtain ⟨Ao42, co42, eo42⟩ := Kd.R_slice HO472.out
   (first | subst eo42 | (injection eo42 with f1_ f2_ f3_; have f4_ := f1_.symm; have f5_ := f3_.symm; clear f1_ f2_ f3_; subst f4_; subst f5_))
   obtain ⟨Ao43, co43, eo43⟩ := Kd.R_slice HO475.out
   (first | subst eo43 | (injection eo43 with f1_ f2_ f3_; have f4_ := f1_.symm; have f5_ := f3_.symm; clear f1_ f2_ f3_; subst f4_; subst f5_))
   refine hK.out _ _ ⟨(blk_cell BK458.out 0).trans rfl, (blk_cell BK458.out 1).trans rfl, (blk_cell BK458.out 2).trans rfl, (blk_cell BK458.out 3).trans rfl, (blk_cell BK458.out 4).trans rfl, (blk_cell BK427.out 0).trans rfl, (blk_cell BK427.out 1).trans rfl, (blk_cell BK427.out 2).trans rfl, (blk_cell BK427.out 3).trans rfl, (blk_cell BK427.out 4).trans rfl⟩ (fun hHeld => ?_)
   clear hK K
   refine norm_ (a' := ?_) ?_ ?_
   rotate_left
   ·show Act.put _ (some 29) _ = _
    simp only [Act.put, List.setIfInBounds_toArray, List.set_cons_zero, List.set_cons_succ, i64_w, i32_w]
    rfl
   refine one_ (i := 3) (N := some 30) (tf 4 1) rfl rfl (by kernel_rfl) (by decide) (fun K hK => ?_)
   refine goes_ Try.func19 (by kernel_rfl) rfl #[.agg #[.bool t445, .slice Ao26 t446.length co26, .slice Ao27 t449.length co27, .slice Ao28 t452.length co28, .slice Ao29 t455.length co29], .agg #[.bool t463, .slice Ao40 t464.length co40, .slice Ao41 t467.length co41, .slice Ao42 t470.length co42, .slice Ao43 t473.length co43]] (by rfl) rfl rfl z0_ ?_
   with_reducible refine (laws_eqTree.calls k t445 _ _ t446 _ _ t449 _ _ t452 _ _ t455 t463 _ _ t464 _ _ t467 _ _ t470 _ _ t473 t476 _ ?side1 ?side2 ?side3 ?side4 ?side5 ?side6 ?side7 ?side8 ?side9 ?side10 ?side11 ?side12 ?side13 ?side14 ?side15 ?side16 A36.out).mono ?_
   (case side1 => repeat (first | exact (Kd.R_reads' HO448.out).2.2 | (with_reducible refine Kd.C_alloc ?_ _) | (with_reducible refine Kd.C_drewN ?_ _) | (with_reducible refine Kd.C_drew ?_)))
   (case side2 => exact (Kd.R_reads' HO448.out).2.1)
   (case side3 => repeat (first | exact (Kd.R_reads' HO451.out).2.2 | (with_reducible refine Kd.C_alloc ?_ _) | (with_reducible refine Kd.C_drewN ?_ _) | (with_reducible refine Kd.C_drew ?_)))
   (case side4 => exact (Kd.R_reads' HO451.out).2.1)
   (case side5 => repeat (first | exact (Kd.R_reads' HO454.out).2.2 | (with_reducible refine Kd.C_alloc ?_ _) | (with_reducible refine Kd.C_drewN ?_ _) | (with_reducible refine Kd.C_drew ?_)))
   (case side6 => exact (Kd.R_reads' HO454.out).2.1)
   (case side7 => repeat (first | exact (Kd.R_reads' HO457.out).2.2 | (with_reducible refine Kd.C_alloc ?_ _) | (with_reducible refine Kd.C_drewN ?_ _) | (with_reducible refine Kd.C_drew ?_)))
   (case side8 => exact (Kd.R_reads' HO457.out).2.1)
   (case side9 => repeat (first | exact (Kd.R_reads' HO466.out).2.2 | (with_reducible refine Kd.C_alloc ?_ _) | (with_reducible refine Kd.C_drewN ?_ _) | (with_reducible refine Kd.C_drew ?_)))
   (case side10 => exact (Kd.R_reads' HO466.out).2.1)
   (case side11 => repeat (first | exact (Kd.R_reads' HO469.out).2.2 | (with_reducible refine Kd.C_alloc ?_ _) | (with_reducible refine Kd.C_drewN ?_ _) | (with_reducible refine Kd.C_drew ?_)))
   (case side12 => exact (Kd.R_reads' HO469.out).2.1)
   (case side13 => repeat (first | exact (Kd.R_reads' HO472.out).2.2 | (with_reducible refine Kd.C_alloc ?_ _) | (with_reducible refine Kd.C_drewN ?_ _) | (with_reducible refine Kd.C_drew ?_)))
   (case side14 => exact (Kd.R_reads' HO472.out).2.1)
   (case side15 => repeat (first | exact (Kd.R_reads' HO475.out).2.2 | (with_reducible refine Kd.C_alloc ?_ _) | (with_reducible refine Kd.C_drewN ?_ _) | (with_reducible refine Kd.C_drew ?_)))
   (case side16 => exact (Kd.R_reads' HO475.out).2.1)
   rintro e w44 ⟨rfl, hb⟩
   refine ⟨_, rfl, ?_⟩
   replace HO432 := q_ (Kd.R_below z19_ hb)
   replace HO435 := q_ (Kd.R_below z21_ hb)
   replace HO438 := q_ (Kd.R_below z28_ hb)
   replace HO441 := q_ (Kd.R_below z22_ hb)
   replace HO444 := q_ (Kd.R_below z24_ hb)
   replace HO448 := q_ (Kd.R_below z34_ hb)
   replace HO451 := q_ (Kd.R_below z35_ hb)
   replace HO454 := q_ (Kd.R_below z44_ hb)
   replace HO457 := q_ (Kd.R_below z36_ hb)
   replace HO461 := q_ (Kd.R_below z37_ hb)
   replace HO466 := q_ (Kd.R_below z68_ hb)
   replace HO469 := q_ (Kd.R_below z69_ hb)
   replace HO472 := q_ (Kd.R_below (by (with_reducible repeat (first | apply Kd.R_alloc | apply Kd.R_drewN | apply Kd.R_drew)); exact HO472.out) hb)
   replace HO475 := q_ (Kd.R_below z70_ hb)
   replace BK427 := rb_ BK427 hb
   replace BK458 := rb_ BK458 hb
   replace HB := hb_ hb
   (try clear hb)
   (try clear hb2)
   (try clear hk)
   (try clear hi)
   refine hK.out _ _ ⟨(blk_cell BK458.out 0).trans rfl, (blk_cell BK458.out 1).trans rfl, (blk_cell BK458.out 2).trans rfl, (blk_cell BK458.out 3).trans rfl, (blk_cell BK458.out 4).trans rfl, (blk_cell BK427.out 0).trans rfl, (blk_cell BK427.out 1).trans rfl, (blk_cell BK427.out 2).trans rfl, (blk_cell BK427.out 3).trans rfl, (blk_cell BK427.out 4).trans rfl⟩ (fun hHeld => ?_)
   clear hK K
   refine norm_ (a' := ?_) ?_ ?_
   rotate_left
   ·show Act.put _ (some 30) _ = _
    simp only [Act.put, List.setIfInBounds_toArray, List.set_cons_zero, List.set_cons_succ, i64_w, i32_w]
    rfl
   refine pure_ (i := 4) (N := some 31) (v := ?_) (a' := ?_) (tf 5 0) rfl rfl (by kernel_rfl) (fun _ _ _ h => h) (Or.inl ⟨by rfl, ?_⟩) ?_ ?_
   rotate_left
   ·intro w'
    go_simp
    with_reducible rfl
   rotate_left
   ·simp only [Act.put, List.setIfInBounds_toArray, List.set_cons_zero, List.set_cons_succ, i64_w, i32_w]
    rfl
   refine done_ (by kernel_rfl) ?_
   go_upto_if 31 with (fail)
   have H := HC37.out
   clear HC37
   replace H := kb_ H; rcases H with ⟨rfl, H⟩ | ⟨rfl, H⟩
   ·replace H := bi_ H; obtain ⟨t477, A46, H⟩ := H
    have HC47 := q_ H
    clear H
    have hnb48 := NB458_427.out
    have hnc48 := NB427_458.out
    obtain ⟨hz_, hz_, hz_, hz_, hz_, hz_, hz_, hz_, hz_, hz_⟩ := cs5_ BK458.out
    go_upto_region 14 with (first | ((with_reducible refine gate_callee (f := 29) rfl ?_); refine goesL_ (some 34) rfl rfl Try.func29 (by kernel_rfl) rfl #[.agg #[.bool t445, .slice Ao26 t446.length co26, .slice Ao27 t449.length co27, .slice Ao28 t452.length co28, .slice Ao29 t455.length co29], .int .i64 1] rfl z0_ ?_; (with_reducible refine (laws_markTree.calls t445 (fun k_ => some k_ = (.slice Ao26 t446.length co26 : Value).ownBlock) (.slice Ao26 t446.length co26) t446 (fun k_ => some k_ = (.slice Ao27 t449.length co27 : Value).ownBlock) (.slice Ao27 t449.length co27) t449 ?mkP_ (.slice Ao28 t452.length co28) t452 (fun k_ => some k_ = (.slice Ao29 t455.length co29 : Value).ownBlock) (.slice Ao29 t455.length co29) t455 1 t477 w _ ?side1 ?side2 ?side3 ?side4 ?side5 A46.out).mono ?_); (case side1 => repeat (first | (with_reducible first | exact HB.out | apply below_alloc | apply pw_below_drewN | apply below_drew1 | refine below_set ?_ GE427.out | refine below_set ?_ GE458.out) | exact HB.out)); (case side2 => exact Kd.R_tight rfl HO448.out); (case side3 => exact Kd.R_tight rfl HO451.out); (case side4 => exact Kd.R_bound HO454.out); (case side5 => exact Kd.R_tight rfl HO457.out); rintro e w50 ⟨rfl, hb, hkp⟩; refine ⟨_, rfl, ?_⟩; replace BK427 := q_ (blk_kept z42_ hkp (fun hs_ => Or.elim hs_ (fun e_ => (fun e_ => (Kd.R_ne HO448.out BK427.out (by decide)) e_) e_) (fun e_ => Or.elim e_ (fun e_ => (fun e_ => (Kd.R_ne HO451.out BK427.out (by decide)) e_) e_) (fun e_ => Or.elim e_ (fun e_ => (fun e_ => mark_far e_.2 z42_ (by decide)) e_) (fun e_ => (fun e_ => (Kd.R_ne HO457.out BK427.out (by decide)) e_) e_))))); replace HO432 := q_ (Kd.R_mono (ok' := fun k_ => some k_ ≠ (.slice Ao32 t442.length co32 : Value).ownBlock ∧ some k_ ≠ (.slice Ao31 t459.length co31 : Value).ownBlock ∧ some k_ ≠ (.slice Ao40 t464.length co40 : Value).ownBlock) (Kd.R_keptB ((Kd.R_apart' (Kd.R_tight2 rfl (Kd.R_apart' HO432.out (Kd.R_typed HO451.out) (by decide))) (Kd.R_typed HO457.out) (by decide))) hkp (fun k_ hk_ hs_ => Or.elim hs_ (fun e_ => (hk_.1.2.1.1.1.2) e_) (fun e_ => Or.elim e_ (fun e_ => (hk_.1.2.2) e_) (fun e_ => Or.elim e_ (fun e_ => (fun e_ => (e_.1.1.1.1.1.1.1.1.1.1.1.2) (hk_.1.1)) e_) (fun e_ => (hk_.2) e_))))) (fun k_ hk_ => ⟨hk_.1.1.2.1.1.1.1.2, hk_.1.1.2.1.1.2, hk_.1.1.2.1.2⟩)); replace HO435 := q_ (Kd.R_mono (ok' := fun k_ => some k_ ≠ (.slice Ao41 t467.length co41 : Value).ownBlock) (Kd.R_keptB ((Kd.R_apart' (Kd.R_tight2 rfl (Kd.R_apart' HO435.out (Kd.R_typed HO448.out) (by decide))) (Kd.R_typed HO457.out) (by decide))) hkp (fun k_ hk_ hs_ => Or.elim hs_ (fun e_ => (hk_.1.2.2) e_) (fun e_ => Or.elim e_ (fun e_ => (hk_.1.2.1.1.2) e_) (fun e_ => Or.elim e_ (fun e_ => (fun e_ => (e_.1.1.1.1.1.1.1.1.1.1.2) (hk_.1.1)) e_) (fun e_ => (hk_.2) e_))))) (fun k_ hk_ => hk_.1.1.2.1.2)); replace HO441 := q_ (Kd.R_mono (ok' := fun k_ => some k_ ≠ (.slice Ao43 t473.length co43 : Value).ownBlock) (Kd.R_keptB ((Kd.R_tight2 rfl (Kd.R_apart' (Kd.R_apart' HO441.out (Kd.R_typed HO448.out) (by decide)) (Kd.R_typed HO451.out) (by decide)))) hkp (fun k_ hk_ hs_ => Or.elim hs_ (fun e_ => (hk_.2.1.2) e_) (fun e_ => Or.elim e_ (fun e_ => (hk_.2.2) e_) (fun e_ => Or.elim e_ (fun e_ => (fun e_ => (e_.1.1.1.1.1.1.1.1.2) (hk_.1)) e_) (fun e_ => (hk_.2.1.1.1.2) e_))))) (fun k_ hk_ => hk_.1.2.1.1.2)); replace HO444 := q_ (Kd.R_mono (ok' := fun k_ => some k_ ≠ (.slice Ao16 t430.length co16 : Value).ownBlock ∧ some k_ ≠ (.slice Ao31 t459.length co31 : Value).ownBlock ∧ some k_ ≠ (.slice Ao40 t464.length co40 : Value).ownBlock) (Kd.R_keptB ((Kd.R_apart' (Kd.R_tight2 rfl (Kd.R_apart' HO444.out (Kd.R_typed HO451.out) (by decide))) (Kd.R_typed HO457.out) (by decide))) hkp (fun k_ hk_ hs_ => Or.elim hs_ (fun e_ => (hk_.1.2.1.1.1.2) e_) (fun e_ => Or.elim e_ (fun e_ => (hk_.1.2.2) e_) (fun e_ => Or.elim e_ (fun e_ => (fun e_ => (e_.1.1.1.1.1.1.1.2) (hk_.1.1)) e_) (fun e_ => (hk_.2) e_))))) (fun k_ hk_ => ⟨hk_.1.1.2.1.1.1.1.2, hk_.1.1.2.1.1.2, hk_.1.1.2.1.2⟩)); replace BK458 := q_ (blk_kept z64_ hkp (fun hs_ => Or.elim hs_ (fun e_ => (fun e_ => (Kd.R_ne HO448.out BK458.out (by decide)) e_) e_) (fun e_ => Or.elim e_ (fun e_ => (fun e_ => (Kd.R_ne HO451.out BK458.out (by decide)) e_) e_) (fun e_ => Or.elim e_ (fun e_ => (fun e_ => (e_.1.1.1.1.1.1.2) rfl) e_) (fun e_ => (fun e_ => (Kd.R_ne HO457.out BK458.out (by decide)) e_) e_))))); replace HO461 := q_ (Kd.R_mono (ok' := fun k_ => some k_ ≠ (.slice Ao16 t430.length co16 : Value).ownBlock ∧ some k_ ≠ (.slice Ao32 t442.length co32 : Value).ownBlock ∧ some k_ ≠ (.slice Ao40 t464.length co40 : Value).ownBlock) (Kd.R_keptB ((Kd.R_apart' (Kd.R_tight2 rfl (Kd.R_apart' HO461.out (Kd.R_typed HO451.out) (by decide))) (Kd.R_typed HO457.out) (by decide))) hkp (fun k_ hk_ hs_ => Or.elim hs_ (fun e_ => (hk_.1.2.1.1.2) e_) (fun e_ => Or.elim e_ (fun e_ => (hk_.1.2.2) e_) (fun e_ => Or.elim e_ (fun e_ => (fun e_ => (e_.1.1.1.1.1.2) (hk_.1.1)) e_) (fun e_ => (hk_.2) e_))))) (fun k_ hk_ => ⟨hk_.1.1.2.1.1.1.1.2, hk_.1.1.2.1.1.1.2, hk_.1.1.2.1.2⟩)); replace HO466 := q_ (Kd.R_mono (ok' := fun k_ => some k_ ≠ (.slice Ao16 t430.length co16 : Value).ownBlock ∧ some k_ ≠ (.slice Ao32 t442.length co32 : Value).ownBlock ∧ some k_ ≠ (.slice Ao31 t459.length co31 : Value).ownBlock) (Kd.R_keptB ((Kd.R_apart' (Kd.R_tight2 rfl (Kd.R_apart' HO466.out (Kd.R_typed HO451.out) (by decide))) (Kd.R_typed HO457.out) (by decide))) hkp (fun k_ hk_ hs_ => Or.elim hs_ (fun e_ => (hk_.1.2.1.1.2) e_) (fun e_ => Or.elim e_ (fun e_ => (hk_.1.2.2) e_) (fun e_ => Or.elim e_ (fun e_ => (fun e_ => (e_.1.1.1.1.2) (hk_.1.1)) e_) (fun e_ => (hk_.2) e_))))) (fun k_ hk_ => ⟨hk_.1.1.2.1.1.1.1.2, hk_.1.1.2.1.1.1.2, hk_.1.1.2.1.2⟩)); replace HO469 := q_ (Kd.R_mono (ok' := fun k_ => some k_ ≠ (.slice Ao17 t433.length co17 : Value).ownBlock) (Kd.R_keptB ((Kd.R_apart' (Kd.R_tight2 rfl (Kd.R_apart' HO469.out (Kd.R_typed HO448.out) (by decide))) (Kd.R_typed HO457.out) (by decide))) hkp (fun k_ hk_ hs_ => Or.elim hs_ (fun e_ => (hk_.1.2.2) e_) (fun e_ => Or.elim e_ (fun e_ => (hk_.1.2.1.2) e_) (fun e_ => Or.elim e_ (fun e_ => (fun e_ => (e_.1.1.1.2) (hk_.1.1)) e_) (fun e_ => (hk_.2) e_))))) (fun k_ hk_ => hk_.1.1.2.1.1.2)); replace HO475 := q_ (Kd.R_mono (ok' := fun k_ => some k_ ≠ (.slice Ao19 t439.length co19 : Value).ownBlock) (Kd.R_keptB ((Kd.R_tight2 rfl (Kd.R_apart' (Kd.R_apart' HO475.out (Kd.R_typed HO448.out) (by decide)) (Kd.R_typed HO451.out) (by decide)))) hkp (fun k_ hk_ hs_ => Or.elim hs_ (fun e_ => (hk_.2.1.2) e_) (fun e_ => Or.elim e_ (fun e_ => (hk_.2.2) e_) (fun e_ => Or.elim e_ (fun e_ => (fun e_ => (e_.1.2) (hk_.1)) e_) (fun e_ => (hk_.2.1.1.2) e_))))) (fun k_ hk_ => hk_.1.2.1.1.1.2)); replace HB := q_ (hb); clear HO438 HO448 HO451 HO454 HO457 HO472; (try clear hb); (try clear hkp)))
    (try simp only [Act.put, List.setIfInBounds_toArray, List.set_cons_zero, List.set_cons_succ])
    go_cut [42] (fun v42 wc => ∃ (kq : Nat) (x42_46 : Bool), v42 = .bool x42_46 ∧ Aside0 (laws_FnExactTreeMap.j0 kq t442 t459 x42_46 a0_0 l0_1 l0_2 l0_3 l0_4 = some r) ∧ Aside0 (kq ≤ k) ∧ Aside0 (Kd.R k92 92 wc w.heap.size (fun k_ => some k_ ≠ ((.slice Ao31 t459.length co31) : Value).ownBlock) (.slice Ao32 t442.length co32) t442) ∧ Aside0 (Kd.R k92 92 wc w.heap.size (fun k_ => some k_ ≠ ((.slice Ao32 t442.length co32) : Value).ownBlock) (.slice Ao31 t459.length co31) t459) ∧ Aside0 (wc.heap[gb427]? = some (.cells #[.bool a0_0, (.slice A0_1 l0_1.length c0_1), (.slice A0_2 l0_2.length c0_2), (.slice A0_3 l0_3.length c0_3), (.slice A0_4 l0_4.length c0_4)] 27 (0, 0))) ∧ Aside0 (Below w.heap.size w wc))
    case first =>
     have H := HC47.out
     clear HC47
     replace H := kd_ H; rcases H with ⟨c51b0, H⟩ | ⟨c51b0, H⟩
     ·(first | rw [c51b0] | rw [c51b1] | (simp only [i64_w, i32_w]; first | rw [c51b0] | rw [c51b1]) | rw [c51b2] | skip)
      have H' := q_ H
      clear H
      go_wp2
      go_meet
      case rel => exact ⟨_, (true), z4_, H', ⟨z30_⟩, ⟨z60_⟩, ⟨z61_⟩, ⟨z42_⟩, ⟨cb_⟩⟩
     ·(first | rw [c51b0] | rw [c51b1] | (simp only [i64_w, i32_w]; first | rw [c51b0] | rw [c51b1]) | rw [c51b2] | skip)
      replace H := bi_ H; obtain ⟨t478, A52, H⟩ := H
      have H' := q_ H
      clear H
      go_wp2_with (first | (go_at_call 38; (with_reducible refine (laws_eqPairS.calls k _ _ t459 _ _ t442 t478 _ ?side1 ?side2 ?side3 ?side4 A52.out).mono ?_); (case side1 => exact z112_); (case side2 => exact (Kd.R_reads' HO461.out).2.1); (case side3 => exact z113_); (case side4 => exact (Kd.R_reads' HO444.out).2.1); rintro e w53 ⟨rfl, hb⟩; replace HO432 := q_ (Kd.R_below z19_ hb); replace HO435 := q_ (Kd.R_below z21_ hb); replace HO441 := q_ (Kd.R_below z22_ hb); replace HO444 := q_ (Kd.R_below z24_ hb); replace HO461 := q_ (Kd.R_below z37_ hb); replace HO466 := q_ (Kd.R_below z68_ hb); replace HO469 := q_ (Kd.R_below z69_ hb); replace HO475 := q_ (Kd.R_below z70_ hb); replace BK427 := rb_ BK427 hb; replace HB := hb_ hb; (try clear hb); (try clear hb2); (try clear hk); (try clear hi)))
      go_meet
      case rel => exact ⟨_, (!t478), z4_, H', ⟨z30_⟩, ⟨z60_⟩, ⟨z61_⟩, ⟨z42_⟩, ⟨cb_⟩⟩
    case rest =>
     clear HC47
     try clear c1
     try clear c2
     try clear p2
     try clear c3
     try clear c4
     try clear c5
     try clear c7
     try clear c7b0
     try clear c7b1
     try clear c7b2
     try clear c10
     try clear c15
     try clear c17
     try clear c19
     try clear c24
     try clear c29
     try clear c34
     try clear c36
     try clear c37
     try clear c38
     try clear c45
     try clear c48
     try clear c51
     try clear c51b0
     try clear c51b1
     try clear c51b2
     repeat clear hz_
     obtain ⟨kq, x42_46, rfl, HA, HJ46, HO_4, HO_6, BK427, HB⟩ := hcut
     obtain ⟨kj46, rfl, H⟩ := rn_ (k := kq) HA (by rintro rfl; simp only [laws_FnExactTreeMap.j0])
     clear HA
     simp only [laws_FnExactTreeMap.j0] at H
     replace H := kb_ H; rcases H with ⟨rfl, H⟩ | ⟨rfl, H⟩
     ·obtain rfl := si_ H
      go_wp2
      go_ret
      exact ⟨z1_, cb_⟩
     ·replace H := bi_ H; obtain ⟨⟨t479, t480⟩, A55, H⟩ := H
      (try dsimp only at H)
      replace H := bi_ H; obtain ⟨t481, A56, H⟩ := H
      have HC57 := q_ H
      clear H
      go_upto_if 50 with (first | ((with_reducible refine gate_callee (f := 39) rfl ?_); refine goesL_ (some 45) rfl rfl Try.func39 (by kernel_rfl) rfl #[.slice Ao31 t459.length co31, .int .i64 1] rfl z0_ ?_; (with_reducible refine (laws_markPairS.calls kj46 (fun k_ => some k_ = (.slice Ao31 t459.length co31 : Value).ownBlock) (.slice Ao31 t459.length co31) t459 1 t479 t480 w _ ?side1 ?side2 A55.out).mono ?_); (case side1 => repeat (first | (with_reducible first | exact HB.out | apply below_alloc | apply pw_below_drewN | apply below_drew1 | refine below_set ?_ GE427.out) | exact HB.out)); (case side2 => exact Kd.R_tight rfl HO_6.out); rintro e w58 ⟨rfl, hy0, hb, hkp⟩; refine ⟨_, rfl, ?_⟩; replace HO_4 := q_ (Kd.R_mono (ok' := fun k_ => some k_ ≠ (.slice Ao31 t459.length co31 : Value).ownBlock) (Kd.R_keptB (HO_4.out) hkp (fun k_ hk_ hs_ => (hk_) hs_)) (fun k_ hk_ => hk_.1)); replace BK427 := q_ (blk_kept z42_ hkp (fun hs_ => (fun e_ => (Kd.R_ne HO_6.out BK427.out (by decide)) e_) hs_)); replace HO_6 := q_ (Kd.R_reok rfl hy0 (fun k_ e_ => HO_6.out.1 k_ e_)); replace HB := q_ (hb); (try clear hb); (try clear hkp); (try clear hy0)) | ((with_reducible refine gate_callee (f := 40) rfl ?_); refine goesL_ (some 48) rfl rfl Try.func40 (by kernel_rfl) rfl #[.slice Ao31 t480.length co31, .int .i64 1] rfl z51_ ?_; (with_reducible refine (laws_heldPairS.calls kj46 _ _ t480 1 t481 _ ?side1 ?side2 A56.out).mono ?_); (case side1 => exact z116_); (case side2 => exact z121_); rintro e w' ⟨rfl, ⟨nd, rfl⟩⟩; refine ⟨_, rfl, ?_⟩))
      (try simp only [Act.put, List.setIfInBounds_toArray, List.set_cons_zero, List.set_cons_succ])
      have H := HC57.out
      clear HC57
      replace H := kd_ H; rcases H with ⟨c59b0, H⟩ | ⟨c59b0, H⟩
      ·(first | rw [c59b0] | rw [c59b1] | (simp only [i64_w, i32_w]; first | rw [c59b0] | rw [c59b1]) | rw [c59b2] | skip)
       obtain rfl := si_ H
       go_wp2
       go_ret
       exact ⟨z1_, cb_⟩
      ·(first | rw [c59b0] | rw [c59b1] | (simp only [i64_w, i32_w]; first | rw [c59b0] | rw [c59b1]) | rw [c59b2] | skip)
       replace H := ke_ H; rcases H with ⟨c60b0, c60b1, H⟩ | ⟨c60, c60b0, c60b1, H⟩
       ·replace H := bi_ H; obtain ⟨⟨t482, t483, t486, t489, t492⟩, A61, H⟩ := H
        (try dsimp only at H)
        replace H := bi_ H; obtain ⟨t495, A62, H⟩ := H
        replace H := bi_ H; obtain ⟨t498, A63, H⟩ := H
        have HC64 := q_ H
        clear H
        obtain ⟨hz_, hz_, hz_, hz_, hz_, hz_, hz_, hz_, hz_, hz_⟩ := cs5_ BK427.out
        go_upto_if 60 with (first | ((with_reducible refine gate_callee (f := 17) rfl ?_); refine goesL_ (some 55) rfl rfl Try.func17 (by kernel_rfl) rfl #[.agg #[.bool a0_0, .slice A0_1 l0_1.length c0_1, .slice A0_2 l0_2.length c0_2, .slice A0_3 l0_3.length c0_3, .slice A0_4 l0_4.length c0_4]] rfl z0_ ?_; (with_reducible refine (laws_toTree.calls kj46 a0_0 _ _ l0_1 _ _ l0_2 _ _ l0_3 _ _ l0_4 t482 t483 t486 t489 t492 _ ?side1 ?side2 ?side3 ?side4 ?side5 ?side6 ?side7 ?side8 A61.out).mono ?_); (case side1 => repeat (first | exact (Kd.C_below HR0_1.out cb_) | (with_reducible refine Kd.C_alloc ?_ _) | (with_reducible refine Kd.C_drewN ?_ _) | (with_reducible refine Kd.C_drew ?_))); (case side2 => exact z110_); (case side3 => exact z114_); (case side4 => exact HC0_2.out); (case side5 => exact z105_); (case side6 => exact HC0_3.out); (case side7 => repeat (first | exact (Kd.C_below HR0_4.out cb_) | (with_reducible refine Kd.C_alloc ?_ _) | (with_reducible refine Kd.C_drewN ?_ _) | (with_reducible refine Kd.C_drew ?_))); (case side8 => exact HC0_4.out); rintro e w66 ⟨v484, v487, v490, v493, rfl, ho0, ho1, ho2, ho3, hb⟩; refine ⟨_, rfl, ?_⟩; have HO485 := q_ (Kd.R_lower (Kd.R_new' (Kd.R_new' ho0 (Kd.R_lt z38_)) (Kd.R_lt z39_)) (below_size cb_)); have HO488 := q_ (Kd.R_lower ho1 (below_size cb_)); have HO491 := q_ (Kd.R_lower (Kd.R_new' (Kd.R_new' ho2 (Kd.R_lt z38_)) (Kd.R_lt z39_)) (below_size cb_)); replace HO_4 := q_ (Kd.R_elder' z38_ (Kd.R_base ho0) hb); replace HO_6 := q_ (Kd.R_elder' z39_ (Kd.R_base ho0) hb); have HO494 := q_ (Kd.R_lower ho3 (below_size cb_)); replace BK427 := rb_ BK427 hb; replace HB := hb_ hb; (try clear hb); (try clear hb2); (try clear hk); (try clear hi); (try clear ho0); (try clear ho1); (try clear ho2); (try clear ho3); obtain ⟨Ao67, co67, eo67⟩ := Kd.R_slice HO485.out; subst eo67; obtain ⟨Ao68, co68, eo68⟩ := Kd.R_slice HO488.out; subst eo68; obtain ⟨Ao69, co69, eo69⟩ := Kd.R_slice HO491.out; subst eo69; obtain ⟨Ao70, co70, eo70⟩ := Kd.R_slice HO494.out; subst eo70) | ((with_reducible refine gate_callee (f := 37) rfl ?_); refine goesL_ (some 56) rfl rfl Try.func37 (by kernel_rfl) rfl #[.agg #[.bool t482, .slice Ao67 t483.length co67, .slice Ao68 t486.length co68, .slice Ao69 t489.length co69, .slice Ao70 t492.length co70]] rfl z0_ ?_; (with_reducible refine (impl_TreeMap.calls kj46 t482 _ _ t483 _ _ t486 _ _ t489 _ _ t492 t495 _ ?side1 ?side2 ?side3 ?side4 ?side5 ?side6 ?side7 ?side8 A62.out).mono ?_); (case side1 => repeat (first | exact (Kd.R_reads' HO485.out).2.2 | (with_reducible refine Kd.C_alloc ?_ _) | (with_reducible refine Kd.C_drewN ?_ _) | (with_reducible refine Kd.C_drew ?_))); (case side2 => exact (Kd.R_reads' HO485.out).2.1); (case side3 => repeat (first | exact (Kd.R_reads' HO488.out).2.2 | (with_reducible refine Kd.C_alloc ?_ _) | (with_reducible refine Kd.C_drewN ?_ _) | (with_reducible refine Kd.C_drew ?_))); (case side4 => exact (Kd.R_reads' HO488.out).2.1); (case side5 => repeat (first | exact (Kd.R_reads' HO491.out).2.2 | (with_reducible refine Kd.C_alloc ?_ _) | (with_reducible refine Kd.C_drewN ?_ _) | (with_reducible refine Kd.C_drew ?_))); (case side6 => exact (Kd.R_reads' HO491.out).2.1); (case side7 => repeat (first | exact (Kd.R_reads' HO494.out).2.2 | (with_reducible refine Kd.C_alloc ?_ _) | (with_reducible refine Kd.C_drewN ?_ _) | (with_reducible refine Kd.C_drew ?_))); (case side8 => exact (Kd.R_reads' HO494.out).2.1); rintro e w71 ⟨v496, rfl, ho0, hb⟩; refine ⟨_, rfl, ?_⟩; replace HO488 := q_ (Kd.R_below z71_ hb); replace HO491 := q_ (Kd.R_elder' z72_ (Kd.R_base ho0) hb); replace HO494 := q_ (Kd.R_below z73_ hb); have HO497 := q_ (Kd.R_lower (Kd.R_new' (Kd.R_new' (Kd.R_new' ho0 (Kd.R_lt z38_)) (Kd.R_lt z39_)) (Kd.R_lt z59_)) (below_size cb_)); replace HO_4 := q_ (Kd.R_elder' z38_ (Kd.R_base ho0) hb); replace HO_6 := q_ (Kd.R_elder' z39_ (Kd.R_base ho0) hb); replace HO485 := q_ (Kd.R_elder' z59_ (Kd.R_base ho0) hb); replace BK427 := rb_ BK427 hb; replace HB := hb_ hb; (try clear hb); (try clear hb2); (try clear hk); (try clear hi); (try clear ho0); obtain ⟨Ao72, co72, eo72⟩ := Kd.R_slice HO497.out; subst eo72) | ((with_reducible refine gate_callee (f := 38) rfl ?_); refine goesL_ (some 59) rfl rfl Try.func38 (by kernel_rfl) rfl #[.slice Ao72 t495.length co72, .slice Ao32 t442.length co32] rfl z0_ ?_; (with_reducible refine (laws_eqPairS.calls kj46 _ _ t495 _ _ t442 t498 _ ?side1 ?side2 ?side3 ?side4 A63.out).mono ?_); (case side1 => repeat (first | exact (Kd.R_reads' HO497.out).2.2 | (with_reducible refine Kd.C_alloc ?_ _) | (with_reducible refine Kd.C_drewN ?_ _) | (with_reducible refine Kd.C_drew ?_))); (case side2 => exact (Kd.R_reads' HO497.out).2.1); (case side3 => repeat (first | exact (Kd.R_reads' HO_4.out).2.2 | (with_reducible refine Kd.C_alloc ?_ _) | (with_reducible refine Kd.C_drewN ?_ _) | (with_reducible refine Kd.C_drew ?_))); (case side4 => exact (Kd.R_reads' HO_4.out).2.1); rintro e w73 ⟨rfl, hb⟩; refine ⟨_, rfl, ?_⟩; replace HO_4 := q_ (Kd.R_below z38_ hb); replace HO_6 := q_ (Kd.R_below z39_ hb); replace HO485 := q_ (Kd.R_below z59_ hb); replace HO488 := q_ (Kd.R_below z71_ hb); replace HO491 := q_ (Kd.R_below z72_ hb); replace HO494 := q_ (Kd.R_below z73_ hb); replace HO497 := q_ (Kd.R_below (by (with_reducible repeat (first | apply Kd.R_alloc | apply Kd.R_drewN | apply Kd.R_drew)); exact HO497.out) hb); replace BK427 := rb_ BK427 hb; replace HB := hb_ hb; (try clear hb); (try clear hb2); (try clear hk); (try clear hi)))
        (try simp only [Act.put, List.setIfInBounds_toArray, List.set_cons_zero, List.set_cons_succ])
        have H := HC64.out
        clear HC64
        replace H := kb_ H; rcases H with ⟨rfl, H⟩ | ⟨rfl, H⟩
        ·replace H := bi_ H; obtain ⟨t499, A75, H⟩ := H
         have HC76 := q_ H
         clear H
         go_upto_if 65 with (first | ((with_reducible refine gate_callee (f := 40) rfl ?_); refine goesL_ (some 63) rfl rfl Try.func40 (by kernel_rfl) rfl #[.slice Ao31 t480.length co31, .int .i64 1] rfl z51_ ?_; (with_reducible refine (laws_heldPairS.calls kj46 _ _ t480 1 t499 _ ?side1 ?side2 A75.out).mono ?_); (case side1 => exact z116_); (case side2 => exact z121_); rintro e w' ⟨rfl, ⟨nd, rfl⟩⟩; refine ⟨_, rfl, ?_⟩))
         (try simp only [Act.put, List.setIfInBounds_toArray, List.set_cons_zero, List.set_cons_succ])
         have H := HC76.out
         clear HC76
         replace H := kd_ H; rcases H with ⟨c77b0, H⟩ | ⟨c77b0, H⟩
         ·(first | rw [c77b0] | rw [c77b1] | (simp only [i64_w, i32_w]; first | rw [c77b0] | rw [c77b1]) | rw [c77b2] | skip)
          obtain rfl := si_ H
          go_wp2
          go_ret
          exact ⟨z1_, cb_⟩
         ·(first | rw [c77b0] | rw [c77b1] | (simp only [i64_w, i32_w]; first | rw [c77b0] | rw [c77b1]) | rw [c77b2] | skip)
          replace H := ke_ H; rcases H with ⟨c78b0, c78b1, H⟩ | ⟨c78, c78b0, c78b1, H⟩
          ·obtain rfl := si_ H
           go_wp2
           go_ret
           exact ⟨z1_, cb_⟩
          ·obtain rfl := si_ H
           go_wp2
           go_ret
           exact ⟨z1_, cb_⟩
        ·obtain rfl := si_ H
         go_wp2
         go_ret
         exact ⟨z1_, cb_⟩
       ·obtain rfl := si_ H
        go_wp2
        go_ret
        exact ⟨z1_, cb_⟩
   ·obtain rfl := si_ H
    go_wp2
    go_ret
    exact ⟨z1_, cb_⟩
  ·obtain rfl := si_ H
   go_wp2
   go_ret
   exact ⟨z1_, cb_⟩

end Go.Proofs.Ytfnndcpaldkkoaa.PFnExactTreeMap
