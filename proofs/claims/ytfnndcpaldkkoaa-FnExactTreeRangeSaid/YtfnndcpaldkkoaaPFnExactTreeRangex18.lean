-- Written by a program of this session, which goes by the kit's print. Not trusted: Lean checks it.
import Derived.Test.YtfnndcpaldkkoaaPFnExactTreeRangex0
import Derived.Test.YtfnndcpaldkkoaaPFnExactTreeRangex1
import Derived.Test.YtfnndcpaldkkoaaPFnExactTreeRangex2
import Derived.Test.YtfnndcpaldkkoaaPFnExactTreeRangex3
import Derived.Test.YtfnndcpaldkkoaaPFnExactTreeRangex4
import Derived.Test.YtfnndcpaldkkoaaPFnExactTreeRangex5
import Derived.Test.YtfnndcpaldkkoaaPFnExactTreeRangex6
import Derived.Test.YtfnndcpaldkkoaaPFnExactTreeRangex12
import Derived.Test.YtfnndcpaldkkoaaPFnExactTreeRangex17
namespace Go.Proofs.Ytfnndcpaldkkoaa.PFnExactTreeRange
open Go.RowKit Go.Proofs.YtfnndcpaldkkoaaW.PrintWords Go.Proofs.YtfnndcpaldkkoaaW.PrintLast Go.Proofs.YtfnndcpaldkkoaaW.PrintMore
attribute [local go_sem] Instr.field asAgg max2_int min2_int max_two min_two max_three min_three max_four min_four   -- for this text's walks alone
set_option linter.unusedVariables false
set_option linter.unusedSimpArgs false

/-! ### laws_FnExactTreeRange: function 11 -/
def laws_FnExactTreeRange.j0 : Nat → Int → Int → List (S92) → List (S92) → Bool → Bool → List (S107) → List Int → List (S27) → List (S109) → Option (Bool)
 | 0, _, _, _, _, _, _, _, _, _, _ => none
 | k + 1, x1, x2, x8, x10, x50, x453000, x453001, x453002, x453003, x453004 => if x50 = true then (some false) else ((laws_markPairS.f k x10 1).bind fun bt504 => ((laws_heldPairS.f k bt504.2 1).bind fun t506 => (if t506 < 0 then (some false) else (if t506 = bt504.1 then ((laws_toTree.f k x453000 x453001 x453002 x453003 x453004).bind fun bt507 => ((impl_TreeRange.f k bt507.1 bt507.2.1 bt507.2.2.1 bt507.2.2.2.1 bt507.2.2.2.2 x1 x2).bind fun t520 => ((laws_eqPairS.f k t520 x8).bind fun t523 => (if t523 = true then ((laws_heldPairS.f k bt504.2 1).bind fun t524 => (if t524 < 0 then (some false) else (if t524 = bt504.1 then (some true) else (some false)))) else (some false))))) else (some false)))))
def laws_FnExactTreeRange.f (k : Nat) (a0_0 : Bool) (l0_1 : List (S107)) (l0_2 : List Int) (l0_3 : List (S27)) (l0_4 : List (S109)) (a1 : Int) (a2 : Int) : Option (Bool) := (laws_szTree.f k a0_0 l0_1 l0_2 l0_3 l0_4 1048576).bind fun t453 => (if t453 < 0 then (some true) else ((laws_toTree.f k a0_0 l0_1 l0_2 l0_3 l0_4).bind fun bt454 => ((spec_TreeRange.f k bt454.1 bt454.2.1 bt454.2.2.1 bt454.2.2.2.1 bt454.2.2.2.2 a1 a2).bind fun t467 => ((laws_toTree.f k a0_0 l0_1 l0_2 l0_3 l0_4).bind fun bt470 => ((impl_TreeRange.f k bt470.1 bt470.2.1 bt470.2.2.1 bt470.2.2.2.1 bt470.2.2.2.2 a1 a2).bind fun t484 => ((laws_eqPairS.f k t484 t467).bind fun t487 => (if t487 = true then ((laws_toTree.f k a0_0 l0_1 l0_2 l0_3 l0_4).bind fun bt488 => ((laws_eqTree.f k bt470.1 bt470.2.1 bt470.2.2.1 bt470.2.2.2.1 bt470.2.2.2.2 bt488.1 bt488.2.1 bt488.2.2.1 bt488.2.2.2.1 bt488.2.2.2.2).bind fun t501 => (if t501 = true then ((laws_markTree.f bt470.1 bt470.2.1 bt470.2.2.1 bt470.2.2.2.1 bt470.2.2.2.2 1).bind fun t502 => (if t502 < 0 then (laws_FnExactTreeRange.j0 k a1 a2 t467 t484 true a0_0 l0_1 l0_2 l0_3 l0_4) else ((laws_eqPairS.f k t484 t467).bind fun t503 => (laws_FnExactTreeRange.j0 k a1 a2 t467 t484 (!t503) a0_0 l0_1 l0_2 l0_3 l0_4)))) else (some false)))) else (some false))))))))
theorem laws_FnExactTreeRange.mono_l : ∀ k, (∀ y0 y1 y2 y3 y4 y5 y6 y7 y8 y9, LeO (laws_FnExactTreeRange.j0 k y0 y1 y2 y3 y4 y5 y6 y7 y8 y9) (laws_FnExactTreeRange.j0 (k + 1) y0 y1 y2 y3 y4 y5 y6 y7 y8 y9))
 | 0 => fun _ _ _ _ _ _ _ _ _ _ r h => by simp [laws_FnExactTreeRange.j0] at h
 | k + 1 => by
  have ih0 := laws_FnExactTreeRange.mono_l k
  ·intro y0 y1 y2 y3 y4 y5 y6 y7 y8 y9
   unfold laws_FnExactTreeRange.j0
   have m0 := @impl_TreeRange.mono
   have m1 := @laws_eqPairS.mono
   have m2 := @laws_eqTree.mono
   have m3 := @laws_heldPairS.mono
   have m4 := @laws_markPairS.mono
   have m5 := @laws_szTree.mono
   have m6 := @laws_toTree.mono
   have m7 := @spec_TreeRange.mono
   exact zm_
theorem laws_FnExactTreeRange.mono : ∀ a0 a1 a2 a3 a4 a5 a6 k, LeO (laws_FnExactTreeRange.f k a0 a1 a2 a3 a4 a5 a6) (laws_FnExactTreeRange.f (k + 1) a0 a1 a2 a3 a4 a5 a6) := by
 intro a0 a1 a2 a3 a4 a5 a6 k
 have ih0 := laws_FnExactTreeRange.mono_l k
 unfold laws_FnExactTreeRange.f
 have m0 := @impl_TreeRange.mono
 have m1 := @laws_eqPairS.mono
 have m2 := @laws_eqTree.mono
 have m3 := @laws_heldPairS.mono
 have m4 := @laws_markPairS.mono
 have m5 := @laws_szTree.mono
 have m6 := @laws_toTree.mono
 have m7 := @spec_TreeRange.mono
 exact zm_
set_option maxHeartbeats 8000000 in
set_option maxRecDepth 100000 in
theorem laws_FnExactTreeRange.calls (k : Nat) (a0_0 : Bool) (A0_1 : Option Addr) (c0_1 : Nat) (l0_1 : List (S107)) (A0_2 : Option Addr) (c0_2 : Nat) (l0_2 : List Int) (A0_3 : Option Addr) (c0_3 : Nat) (l0_3 : List (S27)) (A0_4 : Option Addr) (c0_4 : Nat) (l0_4 : List (S109)) (a1 : Int) (a2 : Int) (r : Bool) (w : World) (hr0_1 : Kd.C k107 w A0_1 l0_1.length l0_1) (hc0_1 : l0_1.length ≤ c0_1) (hr0_2 : Kd.C (Kd.int .i64) w A0_2 l0_2.length l0_2) (hc0_2 : l0_2.length ≤ c0_2) (hr0_3 : Kd.C k27 w A0_3 l0_3.length l0_3) (hc0_3 : l0_3.length ≤ c0_3) (hr0_4 : Kd.C k109 w A0_4 l0_4.length l0_4) (hc0_4 : l0_4.length ≤ c0_4) (h : laws_FnExactTreeRange.f k a0_0 l0_1 l0_2 l0_3 l0_4 a1 a2 = some r) :
  Calls Try.prog 11 #[.agg #[.bool a0_0, .slice A0_1 l0_1.length c0_1, .slice A0_2 l0_2.length c0_2, .slice A0_3 l0_3.length c0_3, .slice A0_4 l0_4.length c0_4], .int .i64 a1, .int .i64 a2] w fun e w' => e = .returned (.bool r) ∧ Below w.heap.size w w' := by
 have hu27 := Try.underlying27
 have hu34 := Try.underlying34
 have HR0_1 := q_ hr0_1
 have HC0_1 := q_ hc0_1
 clear hr0_1 hc0_1
 have HR0_2 := q_ hr0_2
 have HC0_2 := q_ hc0_2
 clear hr0_2 hc0_2
 have HR0_3 := q_ hr0_3
 have HC0_3 := q_ hc0_3
 clear hr0_3 hc0_3
 have HR0_4 := q_ hr0_4
 have HC0_4 := q_ hc0_4
 clear hr0_4 hc0_4
 have HB := q_ (Below.refl w.heap.size w)
 have H := h; clear h
 unfold laws_FnExactTreeRange.f at H
 replace H := bi_ H; obtain ⟨t453, A4, H⟩ := H
 have HC5 := q_ H
 clear H
 go_enter Try.func11, Try.ntmps11
 go_upto_if 19 with (first | ((with_reducible refine gate_dst (N := 3) rfl ?_); refine box_event ?hg (N := 3) ?hd (cs := #[.bool a0_0, .slice A0_1 l0_1.length c0_1, .slice A0_2 l0_2.length c0_2, .slice A0_3 l0_3.length c0_3, .slice A0_4 l0_4.length c0_4]) (t := 27) ?hr ?_; (case hd => rfl); (case hg => rfl); (case hr => exact z95_); intro gb452 hg w6 hbox hb; have BK452 := q_ (hbox); have GW452 := ge_ hg; have GE452 := ge_ hg; replace HB := hb_ hb; clear hb hbox hg; obtain ⟨hz_, hz_, hz_, hz_, hz_, hz_, hz_, hz_, hz_, hz_⟩ := cs5_ BK452.out) | ((with_reducible refine gate_callee (f := 15) rfl ?_); refine goesL_ (some 17) rfl rfl Try.func15 (by kernel_rfl) rfl #[.agg #[.bool a0_0, .slice A0_1 l0_1.length c0_1, .slice A0_2 l0_2.length c0_2, .slice A0_3 l0_3.length c0_3, .slice A0_4 l0_4.length c0_4], .int .i64 1048576] rfl z0_ ?_; (with_reducible refine (laws_szTree.calls k a0_0 _ _ l0_1 _ _ l0_2 _ _ l0_3 _ _ l0_4 1048576 t453 _ ?side1 ?side2 ?side3 ?side4 ?side5 ?side6 ?side7 ?side8 A4.out).mono ?_); (case side1 => exact z94_); (case side2 => exact z117_); (case side3 => exact z97_); (case side4 => exact HC0_2.out); (case side5 => exact z98_); (case side6 => exact HC0_3.out); (case side7 => exact z96_); (case side8 => exact z122_); rintro e w8 ⟨rfl, hb⟩; refine ⟨_, rfl, ?_⟩; replace BK452 := rb_ BK452 hb; replace HB := hb_ hb; (try clear hb); (try clear hb2); (try clear hk); (try clear hi)))
 (try simp only [Act.put, List.setIfInBounds_toArray, List.set_cons_zero, List.set_cons_succ])
 have H := HC5.out
 clear HC5
 replace H := kd_ H; rcases H with ⟨c9b0, H⟩ | ⟨c9b0, H⟩
 ·(first | rw [c9b0] | rw [c9b1] | (simp only [i64_w, i32_w]; first | rw [c9b0] | rw [c9b1]) | rw [c9b2] | skip)
  obtain rfl := si_ H
  go_wp2
  go_ret
  exact ⟨z2_, cb_⟩
 ·(first | rw [c9b0] | rw [c9b1] | (simp only [i64_w, i32_w]; first | rw [c9b0] | rw [c9b1]) | rw [c9b2] | skip)
  replace H := bi_ H; obtain ⟨⟨t454, t455, t458, t461, t464⟩, A10, H⟩ := H
  (try dsimp only at H)
  replace H := bi_ H; obtain ⟨t467, A11, H⟩ := H
  replace H := bi_ H; obtain ⟨⟨t470, t471, t474, t477, t480⟩, A12, H⟩ := H
  (try dsimp only at H)
  replace H := bi_ H; obtain ⟨t484, A13, H⟩ := H
  replace H := bi_ H; obtain ⟨t487, A14, H⟩ := H
  have HC15 := q_ H
  clear H
  obtain ⟨hz_, hz_, hz_, hz_, hz_, hz_, hz_, hz_, hz_, hz_⟩ := cs5_ BK452.out
  go_upto_if 34 with (first | ((with_reducible refine gate_callee (f := 17) rfl ?_); refine goesL_ (some 21) rfl rfl Try.func17 (by kernel_rfl) rfl #[.agg #[.bool a0_0, .slice A0_1 l0_1.length c0_1, .slice A0_2 l0_2.length c0_2, .slice A0_3 l0_3.length c0_3, .slice A0_4 l0_4.length c0_4]] rfl z0_ ?_; (with_reducible refine (laws_toTree.calls k a0_0 _ _ l0_1 _ _ l0_2 _ _ l0_3 _ _ l0_4 t454 t455 t458 t461 t464 _ ?side1 ?side2 ?side3 ?side4 ?side5 ?side6 ?side7 ?side8 A10.out).mono ?_); (case side1 => exact z94_); (case side2 => exact z117_); (case side3 => exact z97_); (case side4 => exact HC0_2.out); (case side5 => exact z98_); (case side6 => exact HC0_3.out); (case side7 => exact z96_); (case side8 => exact z122_); rintro e w17 ⟨v456, v459, v462, v465, rfl, ho0, ho1, ho2, ho3, hb⟩; refine ⟨_, rfl, ?_⟩; have HO457 := q_ (Kd.R_lower ho0 (below_size cb_)); have HO460 := q_ (Kd.R_lower ho1 (below_size cb_)); have HO463 := q_ (Kd.R_lower ho2 (below_size cb_)); have HO466 := q_ (Kd.R_lower ho3 (below_size cb_)); replace BK452 := rb_ BK452 hb; replace HB := hb_ hb; (try clear hb); (try clear hb2); (try clear hk); (try clear hi); (try clear ho0); (try clear ho1); (try clear ho2); (try clear ho3); obtain ⟨Ao18, co18, eo18⟩ := Kd.R_slice HO457.out; subst eo18; obtain ⟨Ao19, co19, eo19⟩ := Kd.R_slice HO460.out; subst eo19; obtain ⟨Ao20, co20, eo20⟩ := Kd.R_slice HO463.out; subst eo20; obtain ⟨Ao21, co21, eo21⟩ := Kd.R_slice HO466.out; subst eo21) | ((with_reducible refine gate_callee (f := 41) rfl ?_); refine goesL_ (some 24) rfl rfl Try.func41 (by kernel_rfl) rfl #[.agg #[.bool t454, .slice Ao18 t455.length co18, .slice Ao19 t458.length co19, .slice Ao20 t461.length co20, .slice Ao21 t464.length co21], .int .i64 a1, .int .i64 a2] rfl z0_ ?_; (with_reducible refine (spec_TreeRange.calls k t454 _ _ t455 _ _ t458 _ _ t461 _ _ t464 a1 a2 t467 _ ?side1 ?side2 ?side3 ?side4 ?side5 ?side6 ?side7 ?side8 A11.out).mono ?_); (case side1 => repeat (first | exact (Kd.R_reads' HO457.out).2.2 | (with_reducible refine Kd.C_alloc ?_ _) | (with_reducible refine Kd.C_drewN ?_ _) | (with_reducible refine Kd.C_drew ?_))); (case side2 => exact (Kd.R_reads' HO457.out).2.1); (case side3 => repeat (first | exact (Kd.R_reads' HO460.out).2.2 | (with_reducible refine Kd.C_alloc ?_ _) | (with_reducible refine Kd.C_drewN ?_ _) | (with_reducible refine Kd.C_drew ?_))); (case side4 => exact (Kd.R_reads' HO460.out).2.1); (case side5 => repeat (first | exact (Kd.R_reads' HO463.out).2.2 | (with_reducible refine Kd.C_alloc ?_ _) | (with_reducible refine Kd.C_drewN ?_ _) | (with_reducible refine Kd.C_drew ?_))); (case side6 => exact (Kd.R_reads' HO463.out).2.1); (case side7 => repeat (first | exact (Kd.R_reads' HO466.out).2.2 | (with_reducible refine Kd.C_alloc ?_ _) | (with_reducible refine Kd.C_drewN ?_ _) | (with_reducible refine Kd.C_drew ?_))); (case side8 => exact (Kd.R_reads' HO466.out).2.1); rintro e w22 ⟨v468, rfl, ho0, hb⟩; refine ⟨_, rfl, ?_⟩; replace HO460 := q_ (Kd.R_below z22_ hb); replace HO463 := q_ (Kd.R_elder' z31_ (Kd.R_base ho0) hb); replace HO466 := q_ (Kd.R_below z23_ hb); have HO469 := q_ (Kd.R_lower (Kd.R_new' ho0 (Kd.R_lt z19_)) (below_size cb_)); replace HO457 := q_ (Kd.R_elder' z19_ (Kd.R_base ho0) hb); replace BK452 := rb_ BK452 hb; replace HB := hb_ hb; (try clear hb); (try clear hb2); (try clear hk); (try clear hi); (try clear ho0); obtain ⟨hz_, hz_, hz_, hz_, hz_, hz_, hz_, hz_, hz_, hz_⟩ := cs5_ BK452.out) | ((with_reducible refine gate_callee (f := 17) rfl ?_); refine goesL_ (some 26) rfl rfl Try.func17 (by kernel_rfl) rfl #[.agg #[.bool a0_0, .slice A0_1 l0_1.length c0_1, .slice A0_2 l0_2.length c0_2, .slice A0_3 l0_3.length c0_3, .slice A0_4 l0_4.length c0_4]] rfl z0_ ?_; (with_reducible refine (laws_toTree.calls k a0_0 _ _ l0_1 _ _ l0_2 _ _ l0_3 _ _ l0_4 t470 t471 t474 t477 t480 _ ?side1 ?side2 ?side3 ?side4 ?side5 ?side6 ?side7 ?side8 A12.out).mono ?_); (case side1 => exact z94_); (case side2 => exact z117_); (case side3 => exact z97_); (case side4 => exact HC0_2.out); (case side5 => exact z98_); (case side6 => exact HC0_3.out); (case side7 => exact z96_); (case side8 => exact z122_); rintro e w24 ⟨v472, v475, v478, v481, rfl, ho0, ho1, ho2, ho3, hb⟩; refine ⟨_, rfl, ?_⟩; have HO473 := q_ (Kd.R_lower (Kd.R_new' (Kd.R_new' ho0 (Kd.R_lt z19_)) (Kd.R_lt z26_)) (below_size cb_)); have HO476 := q_ (Kd.R_lower (Kd.R_new' ho1 (Kd.R_lt z22_)) (below_size cb_)); have HO479 := q_ (Kd.R_lower (Kd.R_new' (Kd.R_new' (Kd.R_new' (Kd.R_new' (Kd.R_new' ho2 (Kd.R_lt z19_)) (Kd.R_lt z22_)) (Kd.R_lt z31_)) (Kd.R_lt z23_)) (Kd.R_lt z26_)) (below_size cb_)); replace HO457 := q_ (Kd.R_elder' z19_ (Kd.R_base ho0) hb); replace HO460 := q_ (Kd.R_elder' z22_ (Kd.R_base ho1) hb); replace HO463 := q_ (Kd.R_mono (Kd.R_told (Kd.R_told (Kd.R_told (Kd.R_told (Kd.R_old z31_ hb) (Kd.R_base ho0)) (Kd.R_base ho1)) (Kd.R_base ho2)) (Kd.R_base ho3)) (fun _ h_ => h_.1)); replace HO469 := q_ (Kd.R_elder' z26_ (Kd.R_base ho0) hb); have HO482 := q_ (Kd.R_lower (Kd.R_new' ho3 (Kd.R_lt z23_)) (below_size cb_)); replace HO466 := q_ (Kd.R_elder' z23_ (Kd.R_base ho3) hb); replace BK452 := rb_ BK452 hb; replace HB := hb_ hb; (try clear hb); (try clear hb2); (try clear hk); (try clear hi); (try clear ho0); (try clear ho1); (try clear ho2); (try clear ho3)) | ((with_reducible refine gate_dst (N := 9) rfl ?_); refine box_event ?hg (N := 9) ?hd (cs := #[.bool false, .slice none 0 0, .slice none 0 0, .slice none 0 0, .slice none 0 0]) (t := 34) ?hr ?_; (case hd => rfl); (case hg => rfl); (case hr => exact z95_); intro gb483 hg w25 hbox hb; replace HO457 := q_ (Kd.R_below z19_ hb); replace HO460 := q_ (Kd.R_below z22_ hb); replace HO463 := q_ (Kd.R_below (Kd.R_elderB z31_ gb483 (Nat.le_of_eq hg.symm)) hb); replace HO466 := q_ (Kd.R_below z23_ hb); replace HO469 := q_ (Kd.R_below z26_ hb); replace HO473 := q_ (Kd.R_below z38_ hb); replace HO476 := q_ (Kd.R_below z39_ hb); replace HO479 := q_ (Kd.R_below (Kd.R_elderB z47_ gb483 (Nat.le_of_eq hg.symm)) hb); replace HO482 := q_ (Kd.R_below z40_ hb); have BK483 := q_ (hbox); have GW483 := ge_ hg; have GE483 := ge_ hg; replace HB := hb_ hb; have NB452_483 := nl_ hg BK452; have NB483_452 := nr_ hg BK452; replace BK452 := rb_ BK452 hb; clear hb hbox hg; have hnb26 := NB483_452.out; have hnc26 := NB452_483.out; obtain ⟨hz_, hz_, hz_, hz_, hz_, hz_, hz_, hz_, hz_, hz_⟩ := cs5_ BK483.out; obtain ⟨Ao28, co28, eo28⟩ := Kd.R_slice HO473.out; subst eo28; obtain ⟨Ao29, co29, eo29⟩ := Kd.R_slice HO476.out; subst eo29; obtain ⟨Ao30, co30, eo30⟩ := Kd.R_slice HO479.out; subst eo30; obtain ⟨Ao31, co31, eo31⟩ := Kd.R_slice HO482.out; subst eo31) | ((with_reducible refine gate_callee (f := 42) rfl ?_); refine goesL_ (some 30) rfl rfl Try.func42 (by kernel_rfl) rfl #[.agg #[.bool t470, .slice Ao28 t471.length co28, .slice Ao29 t474.length co29, .slice Ao30 t477.length co30, .slice Ao31 t480.length co31], .int .i64 a1, .int .i64 a2] rfl z0_ ?_; (with_reducible refine (impl_TreeRange.calls k t470 _ _ t471 _ _ t474 _ _ t477 _ _ t480 a1 a2 t484 _ ?side1 ?side2 ?side3 ?side4 ?side5 ?side6 ?side7 ?side8 A13.out).mono ?_); (case side1 => refine (Kd.R_reads' (e := 92) (base := w.heap.size) (ok := fun k_ => ((True ∧ some k_ ≠ (.slice Ao18 t455.length co18 : Value).ownBlock) ∧ some k_ ≠ (v468 : Value).ownBlock)) (n := t471.length) (c := co28) ?_).2.2; exact (by (with_reducible repeat (first | apply Kd.R_alloc | apply Kd.R_drewN | apply Kd.R_drew)); exact (Kd.R_mono (Kd.R_far (p := ⟨gb483, 4, none⟩) (Kd.R_far (p := ⟨gb483, 3, none⟩) (Kd.R_far (p := ⟨gb483, 2, none⟩) (Kd.R_far (p := ⟨gb483, 1, none⟩) (Kd.R_far (p := ⟨gb483, 0, none⟩) (Kd.R_types HO473.out BK483.out (by decide)) (fun _ hk => hk.2) (.bool t470)) (fun _ hk => hk.2) (.slice Ao28 t471.length co28)) (fun _ hk => hk.2) (.slice Ao29 t474.length co29)) (fun _ hk => hk.2) (.slice Ao30 t477.length co30)) (fun _ hk => hk.2) (.slice Ao31 t480.length co31)) (fun _ h_ => h_.1)))); (case side2 => exact (Kd.R_reads' HO473.out).2.1); (case side3 => refine (Kd.R_reads' (e := 3) (base := w.heap.size) (ok := fun k_ => (True ∧ some k_ ≠ (.slice Ao19 t458.length co19 : Value).ownBlock)) (n := t474.length) (c := co29) ?_).2.2; exact (by (with_reducible repeat (first | apply Kd.R_alloc | apply Kd.R_drewN | apply Kd.R_drew)); exact (Kd.R_mono (Kd.R_far (p := ⟨gb483, 4, none⟩) (Kd.R_far (p := ⟨gb483, 3, none⟩) (Kd.R_far (p := ⟨gb483, 2, none⟩) (Kd.R_far (p := ⟨gb483, 1, none⟩) (Kd.R_far (p := ⟨gb483, 0, none⟩) (Kd.R_types HO476.out BK483.out (by decide)) (fun _ hk => hk.2) (.bool t470)) (fun _ hk => hk.2) (.slice Ao28 t471.length co28)) (fun _ hk => hk.2) (.slice Ao29 t474.length co29)) (fun _ hk => hk.2) (.slice Ao30 t477.length co30)) (fun _ hk => hk.2) (.slice Ao31 t480.length co31)) (fun _ h_ => h_.1)))); (case side4 => exact (Kd.R_reads' HO476.out).2.1); (case side5 => refine (Kd.R_reads' (e := 34) (base := w.heap.size) (ok := fun k_ => (((((((some k_ ≠ (.slice Ao28 t471.length co28 : Value).ownBlock ∧ (some k_ ≠ (.slice Ao29 t474.length co29 : Value).ownBlock ∧ some k_ ≠ (.slice Ao31 t480.length co31 : Value).ownBlock)) ∧ some k_ ≠ (.slice Ao18 t455.length co18 : Value).ownBlock) ∧ some k_ ≠ (.slice Ao19 t458.length co19 : Value).ownBlock) ∧ some k_ ≠ (.slice Ao20 t461.length co20 : Value).ownBlock) ∧ some k_ ≠ (.slice Ao21 t464.length co21 : Value).ownBlock) ∧ some k_ ≠ (v468 : Value).ownBlock) ∧ k_ ≠ gb483)) (n := t477.length) (c := co30) ?_).2.2; exact z21_); (case side6 => exact (Kd.R_reads' HO479.out).2.1); (case side7 => refine (Kd.R_reads' (e := 72) (base := w.heap.size) (ok := fun k_ => (True ∧ some k_ ≠ (.slice Ao21 t464.length co21 : Value).ownBlock)) (n := t480.length) (c := co31) ?_).2.2; exact (by (with_reducible repeat (first | apply Kd.R_alloc | apply Kd.R_drewN | apply Kd.R_drew)); exact (Kd.R_mono (Kd.R_far (p := ⟨gb483, 4, none⟩) (Kd.R_far (p := ⟨gb483, 3, none⟩) (Kd.R_far (p := ⟨gb483, 2, none⟩) (Kd.R_far (p := ⟨gb483, 1, none⟩) (Kd.R_far (p := ⟨gb483, 0, none⟩) (Kd.R_types HO482.out BK483.out (by decide)) (fun _ hk => hk.2) (.bool t470)) (fun _ hk => hk.2) (.slice Ao28 t471.length co28)) (fun _ hk => hk.2) (.slice Ao29 t474.length co29)) (fun _ hk => hk.2) (.slice Ao30 t477.length co30)) (fun _ hk => hk.2) (.slice Ao31 t480.length co31)) (fun _ h_ => h_.1)))); (case side8 => exact (Kd.R_reads' HO482.out).2.1); rintro e w32 ⟨v485, rfl, ho0, hb⟩; refine ⟨_, rfl, ?_⟩; replace HO460 := q_ (Kd.R_below (by (with_reducible repeat (first | apply Kd.R_alloc | apply Kd.R_drewN | apply Kd.R_drew)); exact (Kd.R_mono (Kd.R_far (p := ⟨gb483, 4, none⟩) (Kd.R_far (p := ⟨gb483, 3, none⟩) (Kd.R_far (p := ⟨gb483, 2, none⟩) (Kd.R_far (p := ⟨gb483, 1, none⟩) (Kd.R_far (p := ⟨gb483, 0, none⟩) (Kd.R_types HO460.out BK483.out (by decide)) (fun _ hk => hk.2) (.bool t470)) (fun _ hk => hk.2) (.slice Ao28 t471.length co28)) (fun _ hk => hk.2) (.slice Ao29 t474.length co29)) (fun _ hk => hk.2) (.slice Ao30 t477.length co30)) (fun _ hk => hk.2) (.slice Ao31 t480.length co31)) (fun _ h_ => h_.1))) hb); replace HO463 := q_ (Kd.R_elder' (by (with_reducible repeat (first | apply Kd.R_alloc | apply Kd.R_drewN | apply Kd.R_drew)); exact (Kd.R_mono (Kd.R_far (p := ⟨gb483, 4, none⟩) (Kd.R_far (p := ⟨gb483, 3, none⟩) (Kd.R_far (p := ⟨gb483, 2, none⟩) (Kd.R_far (p := ⟨gb483, 1, none⟩) (Kd.R_far (p := ⟨gb483, 0, none⟩) (Kd.R_mono HO463.out (fun k_ hk => (⟨hk, hk.2⟩ : _ ∧ k_ ≠ gb483))) (fun _ hk => hk.2) (.bool t470)) (fun _ hk => hk.2) (.slice Ao28 t471.length co28)) (fun _ hk => hk.2) (.slice Ao29 t474.length co29)) (fun _ hk => hk.2) (.slice Ao30 t477.length co30)) (fun _ hk => hk.2) (.slice Ao31 t480.length co31)) (fun _ h_ => h_.1))) (Kd.R_base ho0) hb); replace HO466 := q_ (Kd.R_below (by (with_reducible repeat (first | apply Kd.R_alloc | apply Kd.R_drewN | apply Kd.R_drew)); exact (Kd.R_mono (Kd.R_far (p := ⟨gb483, 4, none⟩) (Kd.R_far (p := ⟨gb483, 3, none⟩) (Kd.R_far (p := ⟨gb483, 2, none⟩) (Kd.R_far (p := ⟨gb483, 1, none⟩) (Kd.R_far (p := ⟨gb483, 0, none⟩) (Kd.R_types HO466.out BK483.out (by decide)) (fun _ hk => hk.2) (.bool t470)) (fun _ hk => hk.2) (.slice Ao28 t471.length co28)) (fun _ hk => hk.2) (.slice Ao29 t474.length co29)) (fun _ hk => hk.2) (.slice Ao30 t477.length co30)) (fun _ hk => hk.2) (.slice Ao31 t480.length co31)) (fun _ h_ => h_.1))) hb); replace HO476 := q_ (Kd.R_below (by (with_reducible repeat (first | apply Kd.R_alloc | apply Kd.R_drewN | apply Kd.R_drew)); exact (Kd.R_mono (Kd.R_far (p := ⟨gb483, 4, none⟩) (Kd.R_far (p := ⟨gb483, 3, none⟩) (Kd.R_far (p := ⟨gb483, 2, none⟩) (Kd.R_far (p := ⟨gb483, 1, none⟩) (Kd.R_far (p := ⟨gb483, 0, none⟩) (Kd.R_types HO476.out BK483.out (by decide)) (fun _ hk => hk.2) (.bool t470)) (fun _ hk => hk.2) (.slice Ao28 t471.length co28)) (fun _ hk => hk.2) (.slice Ao29 t474.length co29)) (fun _ hk => hk.2) (.slice Ao30 t477.length co30)) (fun _ hk => hk.2) (.slice Ao31 t480.length co31)) (fun _ h_ => h_.1))) hb); replace HO479 := q_ (Kd.R_elder' z21_ (Kd.R_base ho0) hb); replace HO482 := q_ (Kd.R_below (by (with_reducible repeat (first | apply Kd.R_alloc | apply Kd.R_drewN | apply Kd.R_drew)); exact (Kd.R_mono (Kd.R_far (p := ⟨gb483, 4, none⟩) (Kd.R_far (p := ⟨gb483, 3, none⟩) (Kd.R_far (p := ⟨gb483, 2, none⟩) (Kd.R_far (p := ⟨gb483, 1, none⟩) (Kd.R_far (p := ⟨gb483, 0, none⟩) (Kd.R_types HO482.out BK483.out (by decide)) (fun _ hk => hk.2) (.bool t470)) (fun _ hk => hk.2) (.slice Ao28 t471.length co28)) (fun _ hk => hk.2) (.slice Ao29 t474.length co29)) (fun _ hk => hk.2) (.slice Ao30 t477.length co30)) (fun _ hk => hk.2) (.slice Ao31 t480.length co31)) (fun _ h_ => h_.1))) hb); have HO486 := q_ (Kd.R_lower (Kd.R_new' (Kd.R_new' (Kd.R_new' ho0 (Kd.R_lt (by (with_reducible repeat (first | apply Kd.R_alloc | apply Kd.R_drewN | apply Kd.R_drew)); exact (Kd.R_mono (Kd.R_far (p := ⟨gb483, 4, none⟩) (Kd.R_far (p := ⟨gb483, 3, none⟩) (Kd.R_far (p := ⟨gb483, 2, none⟩) (Kd.R_far (p := ⟨gb483, 1, none⟩) (Kd.R_far (p := ⟨gb483, 0, none⟩) (Kd.R_types HO457.out BK483.out (by decide)) (fun _ hk => hk.2) (.bool t470)) (fun _ hk => hk.2) (.slice Ao28 t471.length co28)) (fun _ hk => hk.2) (.slice Ao29 t474.length co29)) (fun _ hk => hk.2) (.slice Ao30 t477.length co30)) (fun _ hk => hk.2) (.slice Ao31 t480.length co31)) (fun _ h_ => h_.1))))) (Kd.R_lt (by (with_reducible repeat (first | apply Kd.R_alloc | apply Kd.R_drewN | apply Kd.R_drew)); exact (Kd.R_mono (Kd.R_far (p := ⟨gb483, 4, none⟩) (Kd.R_far (p := ⟨gb483, 3, none⟩) (Kd.R_far (p := ⟨gb483, 2, none⟩) (Kd.R_far (p := ⟨gb483, 1, none⟩) (Kd.R_far (p := ⟨gb483, 0, none⟩) (Kd.R_types HO469.out BK483.out (by decide)) (fun _ hk => hk.2) (.bool t470)) (fun _ hk => hk.2) (.slice Ao28 t471.length co28)) (fun _ hk => hk.2) (.slice Ao29 t474.length co29)) (fun _ hk => hk.2) (.slice Ao30 t477.length co30)) (fun _ hk => hk.2) (.slice Ao31 t480.length co31)) (fun _ h_ => h_.1))))) (Kd.R_lt (by (with_reducible repeat (first | apply Kd.R_alloc | apply Kd.R_drewN | apply Kd.R_drew)); exact (Kd.R_mono (Kd.R_far (p := ⟨gb483, 4, none⟩) (Kd.R_far (p := ⟨gb483, 3, none⟩) (Kd.R_far (p := ⟨gb483, 2, none⟩) (Kd.R_far (p := ⟨gb483, 1, none⟩) (Kd.R_far (p := ⟨gb483, 0, none⟩) (Kd.R_types HO473.out BK483.out (by decide)) (fun _ hk => hk.2) (.bool t470)) (fun _ hk => hk.2) (.slice Ao28 t471.length co28)) (fun _ hk => hk.2) (.slice Ao29 t474.length co29)) (fun _ hk => hk.2) (.slice Ao30 t477.length co30)) (fun _ hk => hk.2) (.slice Ao31 t480.length co31)) (fun _ h_ => h_.1))))) (below_size cb_)); replace HO457 := q_ (Kd.R_elder' (by (with_reducible repeat (first | apply Kd.R_alloc | apply Kd.R_drewN | apply Kd.R_drew)); exact (Kd.R_mono (Kd.R_far (p := ⟨gb483, 4, none⟩) (Kd.R_far (p := ⟨gb483, 3, none⟩) (Kd.R_far (p := ⟨gb483, 2, none⟩) (Kd.R_far (p := ⟨gb483, 1, none⟩) (Kd.R_far (p := ⟨gb483, 0, none⟩) (Kd.R_types HO457.out BK483.out (by decide)) (fun _ hk => hk.2) (.bool t470)) (fun _ hk => hk.2) (.slice Ao28 t471.length co28)) (fun _ hk => hk.2) (.slice Ao29 t474.length co29)) (fun _ hk => hk.2) (.slice Ao30 t477.length co30)) (fun _ hk => hk.2) (.slice Ao31 t480.length co31)) (fun _ h_ => h_.1))) (Kd.R_base ho0) hb); replace HO469 := q_ (Kd.R_elder' (by (with_reducible repeat (first | apply Kd.R_alloc | apply Kd.R_drewN | apply Kd.R_drew)); exact (Kd.R_mono (Kd.R_far (p := ⟨gb483, 4, none⟩) (Kd.R_far (p := ⟨gb483, 3, none⟩) (Kd.R_far (p := ⟨gb483, 2, none⟩) (Kd.R_far (p := ⟨gb483, 1, none⟩) (Kd.R_far (p := ⟨gb483, 0, none⟩) (Kd.R_types HO469.out BK483.out (by decide)) (fun _ hk => hk.2) (.bool t470)) (fun _ hk => hk.2) (.slice Ao28 t471.length co28)) (fun _ hk => hk.2) (.slice Ao29 t474.length co29)) (fun _ hk => hk.2) (.slice Ao30 t477.length co30)) (fun _ hk => hk.2) (.slice Ao31 t480.length co31)) (fun _ h_ => h_.1))) (Kd.R_base ho0) hb); replace HO473 := q_ (Kd.R_elder' (by (with_reducible repeat (first | apply Kd.R_alloc | apply Kd.R_drewN | apply Kd.R_drew)); exact (Kd.R_mono (Kd.R_far (p := ⟨gb483, 4, none⟩) (Kd.R_far (p := ⟨gb483, 3, none⟩) (Kd.R_far (p := ⟨gb483, 2, none⟩) (Kd.R_far (p := ⟨gb483, 1, none⟩) (Kd.R_far (p := ⟨gb483, 0, none⟩) (Kd.R_types HO473.out BK483.out (by decide)) (fun _ hk => hk.2) (.bool t470)) (fun _ hk => hk.2) (.slice Ao28 t471.length co28)) (fun _ hk => hk.2) (.slice Ao29 t474.length co29)) (fun _ hk => hk.2) (.slice Ao30 t477.length co30)) (fun _ hk => hk.2) (.slice Ao31 t480.length co31)) (fun _ h_ => h_.1))) (Kd.R_base ho0) hb); replace BK452 := q_ (blk_below (g := gb452) (o := .cells #[.bool a0_0, .slice A0_1 l0_1.length c0_1, .slice A0_2 l0_2.length c0_2, .slice A0_3 l0_3.length c0_3, .slice A0_4 l0_4.length c0_4] 27 (0, 0)) (by (with_reducible repeat (first | refine blk_drewN ?_ _ | refine blk_drew ?_ | refine blk_alloc ?_ _)); refine blk_far ?_ NB452_483.out _; (with_reducible repeat (first | refine blk_drewN ?_ _ | refine blk_drew ?_ | refine blk_alloc ?_ _)); refine blk_far ?_ NB452_483.out _; (with_reducible repeat (first | refine blk_drewN ?_ _ | refine blk_drew ?_ | refine blk_alloc ?_ _)); refine blk_far ?_ NB452_483.out _; (with_reducible repeat (first | refine blk_drewN ?_ _ | refine blk_drew ?_ | refine blk_alloc ?_ _)); refine blk_far ?_ NB452_483.out _; (with_reducible repeat (first | refine blk_drewN ?_ _ | refine blk_drew ?_ | refine blk_alloc ?_ _)); refine blk_far ?_ NB452_483.out _; (with_reducible repeat (first | refine blk_drewN ?_ _ | refine blk_drew ?_ | refine blk_alloc ?_ _)); exact BK452.out) hb); replace BK483 := q_ (blk_below (g := gb483) (o := .cells #[.bool t470, .slice Ao28 t471.length co28, .slice Ao29 t474.length co29, .slice Ao30 t477.length co30, .slice Ao31 t480.length co31] 34 (0, 0)) (by (with_reducible repeat (first | refine blk_drewN ?_ _ | refine blk_drew ?_ | refine blk_alloc ?_ _)); refine blk_put (cs := #[.bool t470, .slice Ao28 t471.length co28, .slice Ao29 t474.length co29, .slice Ao30 t477.length co30, .slice none 0 0]) ?_ 4 _ rfl; (with_reducible repeat (first | refine blk_drewN ?_ _ | refine blk_drew ?_ | refine blk_alloc ?_ _)); refine blk_put (cs := #[.bool t470, .slice Ao28 t471.length co28, .slice Ao29 t474.length co29, .slice none 0 0, .slice none 0 0]) ?_ 3 _ rfl; (with_reducible repeat (first | refine blk_drewN ?_ _ | refine blk_drew ?_ | refine blk_alloc ?_ _)); refine blk_put (cs := #[.bool t470, .slice Ao28 t471.length co28, .slice none 0 0, .slice none 0 0, .slice none 0 0]) ?_ 2 _ rfl; (with_reducible repeat (first | refine blk_drewN ?_ _ | refine blk_drew ?_ | refine blk_alloc ?_ _)); refine blk_put (cs := #[.bool t470, .slice none 0 0, .slice none 0 0, .slice none 0 0, .slice none 0 0]) ?_ 1 _ rfl; (with_reducible repeat (first | refine blk_drewN ?_ _ | refine blk_drew ?_ | refine blk_alloc ?_ _)); refine blk_put (cs := #[.bool false, .slice none 0 0, .slice none 0 0, .slice none 0 0, .slice none 0 0]) ?_ 0 _ rfl; (with_reducible repeat (first | refine blk_drewN ?_ _ | refine blk_drew ?_ | refine blk_alloc ?_ _)); exact BK483.out) hb); replace HB := hb_ hb; (try clear hb); (try clear hb2); (try clear hk); (try clear hi); (try clear ho0); obtain ⟨Ao33, co33, eo33⟩ := Kd.R_slice HO486.out; subst eo33; obtain ⟨Ao34, co34, eo34⟩ := Kd.R_slice HO469.out; subst eo34) | ((with_reducible refine gate_callee (f := 38) rfl ?_); refine goesL_ (some 33) rfl rfl Try.func38 (by kernel_rfl) rfl #[.slice Ao33 t484.length co33, .slice Ao34 t467.length co34] rfl z0_ ?_; (with_reducible refine (laws_eqPairS.calls k _ _ t484 _ _ t467 t487 _ ?side1 ?side2 ?side3 ?side4 A14.out).mono ?_); (case side1 => exact z119_); (case side2 => exact (Kd.R_reads' HO486.out).2.1); (case side3 => exact z120_); (case side4 => exact (Kd.R_reads' HO469.out).2.1); rintro e w35 ⟨rfl, hb⟩; refine ⟨_, rfl, ?_⟩; replace HO457 := q_ (Kd.R_below z19_ hb); replace HO460 := q_ (Kd.R_below z22_ hb); replace HO463 := q_ (Kd.R_below z31_ hb); replace HO466 := q_ (Kd.R_below z23_ hb); replace HO469 := q_ (Kd.R_below z26_ hb); replace HO473 := q_ (Kd.R_below z38_ hb); replace HO476 := q_ (Kd.R_below z39_ hb); replace HO479 := q_ (Kd.R_below z47_ hb); replace HO482 := q_ (Kd.R_below z40_ hb); replace HO486 := q_ (Kd.R_below z41_ hb); replace BK452 := rb_ BK452 hb; replace BK483 := rb_ BK483 hb; replace HB := hb_ hb; (try clear hb); (try clear hb2); (try clear hk); (try clear hi)))
  (try simp only [Act.put, List.setIfInBounds_toArray, List.set_cons_zero, List.set_cons_succ])
  have H := HC15.out
  clear HC15
  replace H := kb_ H; rcases H with ⟨rfl, H⟩ | ⟨rfl, H⟩
  ·replace H := bi_ H; obtain ⟨⟨t488, t489, t492, t495, t498⟩, A37, H⟩ := H
   (try dsimp only at H)
   replace H := bi_ H; obtain ⟨t501, A38, H⟩ := H
   have HC39 := q_ H
   clear H
   try go_wp2
   replace HO457 := q_ (Kd.R_drew HO457.out)
   replace HO460 := q_ (Kd.R_drew HO460.out)
   replace HO463 := q_ (Kd.R_drew HO463.out)
   replace HO466 := q_ (Kd.R_drew HO466.out)
   replace HO469 := q_ (Kd.R_drew HO469.out)
   replace HO473 := q_ (Kd.R_drew HO473.out)
   replace HO476 := q_ (Kd.R_drew HO476.out)
   replace HO479 := q_ (Kd.R_drew HO479.out)
   replace HO482 := q_ (Kd.R_drew HO482.out)
   replace HO486 := q_ (Kd.R_drew HO486.out)
   replace BK452 := q_ (blk_drew BK452.out)
   replace BK483 := q_ (blk_drew BK483.out)
   replace HB := q_ (below_drew1 HB.out)
   refine start_ (n := 5) (S := fun w' => w'.cell? ⟨gb483, 0, none⟩ = some (.bool t470) ∧ w'.cell? ⟨gb483, 1, none⟩ = some (.slice Ao28 t471.length co28) ∧ w'.cell? ⟨gb483, 2, none⟩ = some (.slice Ao29 t474.length co29) ∧ w'.cell? ⟨gb483, 3, none⟩ = some (.slice Ao30 t477.length co30) ∧ w'.cell? ⟨gb483, 4, none⟩ = some (.slice Ao31 t480.length co31) ∧ w'.cell? ⟨gb452, 0, none⟩ = some (.bool a0_0) ∧ w'.cell? ⟨gb452, 1, none⟩ = some (.slice A0_1 l0_1.length c0_1) ∧ w'.cell? ⟨gb452, 2, none⟩ = some (.slice A0_2 l0_2.length c0_2) ∧ w'.cell? ⟨gb452, 3, none⟩ = some (.slice A0_3 l0_3.length c0_3) ∧ w'.cell? ⟨gb452, 4, none⟩ = some (.slice A0_4 l0_4.length c0_4)) (ds := []) (tf 0 5) (by kernel_rfl) rfl rfl ⟨(blk_cell BK483.out 0).trans rfl, (blk_cell BK483.out 1).trans rfl, (blk_cell BK483.out 2).trans rfl, (blk_cell BK483.out 3).trans rfl, (blk_cell BK483.out 4).trans rfl, (blk_cell BK452.out 0).trans rfl, (blk_cell BK452.out 1).trans rfl, (blk_cell BK452.out 2).trans rfl, (blk_cell BK452.out 3).trans rfl, (blk_cell BK452.out 4).trans rfl⟩ (fun hHeld => ?_)
   generalize w35.drew = w40 at HO457 HO460 HO463 HO466 HO469 HO473 HO476 HO479 HO482 HO486 BK452 BK483 HB hHeld ⊢
   refine take_ (i := 0) (N := some 35) (v := ?_) (a' := ?_) (tf 1 4) rfl rfl (by kernel_rfl) (fun _ _ _ h => h) (Or.inl ⟨by rfl, ?_⟩) hHeld ?_ ?_
   rotate_left
   ·rintro w' ⟨s0, s1, s2, s3, s4, s5, s6, s7, s8, s9⟩
    go_simp
    with_reducible rfl
   rotate_left
   ·simp only [Act.put, List.setIfInBounds_toArray, List.set_cons_zero, List.set_cons_succ, i64_w, i32_w]
    rfl
   refine take_ (i := 1) (N := some 36) (v := ?_) (a' := ?_) (tf 2 3) rfl rfl (by kernel_rfl) (fun _ _ _ h => h) (Or.inl ⟨by rfl, ?_⟩) hHeld ?_ ?_
   rotate_left
   ·rintro w' ⟨s0, s1, s2, s3, s4, s5, s6, s7, s8, s9⟩
    go_simp
    with_reducible rfl
   rotate_left
   ·simp only [Act.put, List.setIfInBounds_toArray, List.set_cons_zero, List.set_cons_succ, i64_w, i32_w]
    rfl
   refine one_ (i := 2) (N := some 37) (tf 3 2) rfl rfl (by kernel_rfl) (by decide) (fun K hK => ?_)
   refine goes_ Try.func17 (by kernel_rfl) rfl #[.agg #[.bool a0_0, .slice A0_1 l0_1.length c0_1, .slice A0_2 l0_2.length c0_2, .slice A0_3 l0_3.length c0_3, .slice A0_4 l0_4.length c0_4]] (by rfl) rfl rfl z0_ ?_
   with_reducible refine (laws_toTree.calls k a0_0 _ _ l0_1 _ _ l0_2 _ _ l0_3 _ _ l0_4 t488 t489 t492 t495 t498 _ ?side1 ?side2 ?side3 ?side4 ?side5 ?side6 ?side7 ?side8 A37.out).mono ?_
   (case side1 => exact z94_)
   (case side2 => exact z117_)
   (case side3 => exact z97_)
   (case side4 => exact HC0_2.out)
   (case side5 => exact z98_)
   (case side6 => exact HC0_3.out)
   (case side7 => exact z96_)
   (case side8 => exact z122_)
   rintro e w41 ⟨v490, v493, v496, v499, rfl, ho0, ho1, ho2, ho3, hb⟩
   refine ⟨_, rfl, ?_⟩
   have HO491 := q_ (Kd.R_lower (Kd.R_new' (Kd.R_new' (Kd.R_new' (Kd.R_new' ho0 (Kd.R_lt z19_)) (Kd.R_lt z26_)) (Kd.R_lt z38_)) (Kd.R_lt z41_)) (below_size cb_))
   have HO494 := q_ (Kd.R_lower (Kd.R_new' (Kd.R_new' ho1 (Kd.R_lt z22_)) (Kd.R_lt z39_)) (below_size cb_))
   have HO497 := q_ (Kd.R_lower (Kd.R_newB (Kd.R_new' (Kd.R_new' (Kd.R_new' (Kd.R_new' (Kd.R_new' (Kd.R_new' (Kd.R_new' (Kd.R_new' (Kd.R_new' (Kd.R_new' ho2 (Kd.R_lt z19_)) (Kd.R_lt z22_)) (Kd.R_lt z31_)) (Kd.R_lt z23_)) (Kd.R_lt z26_)) (Kd.R_lt z38_)) (Kd.R_lt z39_)) (Kd.R_lt z47_)) (Kd.R_lt z40_)) (Kd.R_lt z41_)) (g := gb483) (o := .cells #[.bool t470, .slice Ao28 t471.length co28, .slice Ao29 t474.length co29, .slice Ao30 t477.length co30, .slice Ao31 t480.length co31] 34 (0, 0)) z68_) (below_size cb_))
   replace HO457 := q_ (Kd.R_elder' z19_ (Kd.R_base ho0) hb)
   replace HO460 := q_ (Kd.R_elder' z22_ (Kd.R_base ho1) hb)
   replace HO463 := q_ (Kd.R_mono (Kd.R_told (Kd.R_told (Kd.R_told (Kd.R_told (Kd.R_old z31_ hb) (Kd.R_base ho0)) (Kd.R_base ho1)) (Kd.R_base ho2)) (Kd.R_base ho3)) (fun _ h_ => h_.1))
   replace HO469 := q_ (Kd.R_elder' z26_ (Kd.R_base ho0) hb)
   replace HO473 := q_ (Kd.R_elder' z38_ (Kd.R_base ho0) hb)
   replace HO476 := q_ (Kd.R_elder' z39_ (Kd.R_base ho1) hb)
   replace HO479 := q_ (Kd.R_mono (Kd.R_told (Kd.R_told (Kd.R_told (Kd.R_told (Kd.R_old z47_ hb) (Kd.R_base ho0)) (Kd.R_base ho1)) (Kd.R_base ho2)) (Kd.R_base ho3)) (fun _ h_ => h_.1))
   replace HO486 := q_ (Kd.R_elder' z41_ (Kd.R_base ho0) hb)
   have HO500 := q_ (Kd.R_lower (Kd.R_new' (Kd.R_new' ho3 (Kd.R_lt z23_)) (Kd.R_lt z40_)) (below_size cb_))
   replace HO466 := q_ (Kd.R_elder' z23_ (Kd.R_base ho3) hb)
   replace HO482 := q_ (Kd.R_elder' z40_ (Kd.R_base ho3) hb)
   replace BK452 := rb_ BK452 hb
   replace BK483 := rb_ BK483 hb
   replace HB := hb_ hb
   (try clear hb)
   (try clear hb2)
   (try clear hk)
   (try clear hi)
   (try clear ho0)
   (try clear ho1)
   (try clear ho2)
   (try clear ho3)
   obtain ⟨Ao42, co42, eo42⟩ := Kd.R_slice HO491.out
   (first | subst eo42 | (injection eo42 with f1_ f2_ f3_; have f4_ := f1_.symm; have f5_ := f3_.symm; clear f1_ f2_ f3_; subst f4_; subst f5_))
   obtain ⟨Ao43, co43, eo43⟩ := Kd.R_slice HO494.out
   (first | subst eo43 | (injection eo43 with f1_ f2_ f3_; have f4_ := f1_.symm; have f5_ := f3_.symm; clear f1_ f2_ f3_; subst f4_; subst f5_))
   obtain ⟨Ao44, co44, eo44⟩ := Kd.R_slice HO497.out
   (first | subst eo44 | (injection eo44 with f1_ f2_ f3_; have f4_ := f1_.symm; have f5_ := f3_.symm; clear f1_ f2_ f3_; subst f4_; subst f5_))
   obtain ⟨Ao45, co45, eo45⟩ := Kd.R_slice HO500.out
   (first | subst eo45 | (injection eo45 with f1_ f2_ f3_; have f4_ := f1_.symm; have f5_ := f3_.symm; clear f1_ f2_ f3_; subst f4_; subst f5_))
   refine hK.out _ _ ⟨(blk_cell BK483.out 0).trans rfl, (blk_cell BK483.out 1).trans rfl, (blk_cell BK483.out 2).trans rfl, (blk_cell BK483.out 3).trans rfl, (blk_cell BK483.out 4).trans rfl, (blk_cell BK452.out 0).trans rfl, (blk_cell BK452.out 1).trans rfl, (blk_cell BK452.out 2).trans rfl, (blk_cell BK452.out 3).trans rfl, (blk_cell BK452.out 4).trans rfl⟩ (fun hHeld => ?_)
   clear hK K
   refine norm_ (a' := ?_) ?_ ?_
   rotate_left
   ·show Act.put _ (some 37) _ = _
    simp only [Act.put, List.setIfInBounds_toArray, List.set_cons_zero, List.set_cons_succ, i64_w, i32_w]
    rfl
   refine one_ (i := 3) (N := some 38) (tf 4 1) rfl rfl (by kernel_rfl) (by decide) (fun K hK => ?_)
   refine goes_ Try.func19 (by kernel_rfl) rfl #[.agg #[.bool t470, .slice Ao28 t471.length co28, .slice Ao29 t474.length co29, .slice Ao30 t477.length co30, .slice Ao31 t480.length co31], .agg #[.bool t488, .slice Ao42 t489.length co42, .slice Ao43 t492.length co43, .slice Ao44 t495.length co44, .slice Ao45 t498.length co45]] (by rfl) rfl rfl z0_ ?_
   with_reducible refine (laws_eqTree.calls k t470 _ _ t471 _ _ t474 _ _ t477 _ _ t480 t488 _ _ t489 _ _ t492 _ _ t495 _ _ t498 t501 _ ?side1 ?side2 ?side3 ?side4 ?side5 ?side6 ?side7 ?side8 ?side9 ?side10 ?side11 ?side12 ?side13 ?side14 ?side15 ?side16 A38.out).mono ?_
   (case side1 => repeat (first | exact (Kd.R_reads' HO473.out).2.2 | (with_reducible refine Kd.C_alloc ?_ _) | (with_reducible refine Kd.C_drewN ?_ _) | (with_reducible refine Kd.C_drew ?_)))
   (case side2 => exact (Kd.R_reads' HO473.out).2.1)
   (case side3 => repeat (first | exact (Kd.R_reads' HO476.out).2.2 | (with_reducible refine Kd.C_alloc ?_ _) | (with_reducible refine Kd.C_drewN ?_ _) | (with_reducible refine Kd.C_drew ?_)))
   (case side4 => exact (Kd.R_reads' HO476.out).2.1)
   (case side5 => repeat (first | exact (Kd.R_reads' HO479.out).2.2 | (with_reducible refine Kd.C_alloc ?_ _) | (with_reducible refine Kd.C_drewN ?_ _) | (with_reducible refine Kd.C_drew ?_)))
   (case side6 => exact (Kd.R_reads' HO479.out).2.1)
   (case side7 => repeat (first | exact (Kd.R_reads' HO482.out).2.2 | (with_reducible refine Kd.C_alloc ?_ _) | (with_reducible refine Kd.C_drewN ?_ _) | (with_reducible refine Kd.C_drew ?_)))
   (case side8 => exact (Kd.R_reads' HO482.out).2.1)
   (case side9 => repeat (first | exact (Kd.R_reads' HO491.out).2.2 | (with_reducible refine Kd.C_alloc ?_ _) | (with_reducible refine Kd.C_drewN ?_ _) | (with_reducible refine Kd.C_drew ?_)))
   (case side10 => exact (Kd.R_reads' HO491.out).2.1)
   (case side11 => repeat (first | exact (Kd.R_reads' HO494.out).2.2 | (with_reducible refine Kd.C_alloc ?_ _) | (with_reducible refine Kd.C_drewN ?_ _) | (with_reducible refine Kd.C_drew ?_)))
   (case side12 => exact (Kd.R_reads' HO494.out).2.1)
   (case side13 => repeat (first | exact (Kd.R_reads' HO497.out).2.2 | (with_reducible refine Kd.C_alloc ?_ _) | (with_reducible refine Kd.C_drewN ?_ _) | (with_reducible refine Kd.C_drew ?_)))
   (case side14 => exact (Kd.R_reads' HO497.out).2.1)
   (case side15 => repeat (first | exact (Kd.R_reads' HO500.out).2.2 | (with_reducible refine Kd.C_alloc ?_ _) | (with_reducible refine Kd.C_drewN ?_ _) | (with_reducible refine Kd.C_drew ?_)))
   (case side16 => exact (Kd.R_reads' HO500.out).2.1)
   rintro e w46 ⟨rfl, hb⟩
   refine ⟨_, rfl, ?_⟩
   replace HO457 := q_ (Kd.R_below z19_ hb)
   replace HO460 := q_ (Kd.R_below z22_ hb)
   replace HO463 := q_ (Kd.R_below z31_ hb)
   replace HO466 := q_ (Kd.R_below z23_ hb)
   replace HO469 := q_ (Kd.R_below z26_ hb)
   replace HO473 := q_ (Kd.R_below z38_ hb)
   replace HO476 := q_ (Kd.R_below z39_ hb)
   replace HO479 := q_ (Kd.R_below z47_ hb)
   replace HO482 := q_ (Kd.R_below z40_ hb)
   replace HO486 := q_ (Kd.R_below z41_ hb)
   replace HO491 := q_ (Kd.R_below z75_ hb)
   replace HO494 := q_ (Kd.R_below z76_ hb)
   replace HO497 := q_ (Kd.R_below (by (with_reducible repeat (first | apply Kd.R_alloc | apply Kd.R_drewN | apply Kd.R_drew)); exact HO497.out) hb)
   replace HO500 := q_ (Kd.R_below z77_ hb)
   replace BK452 := rb_ BK452 hb
   replace BK483 := rb_ BK483 hb
   replace HB := hb_ hb
   (try clear hb)
   (try clear hb2)
   (try clear hk)
   (try clear hi)
   refine hK.out _ _ ⟨(blk_cell BK483.out 0).trans rfl, (blk_cell BK483.out 1).trans rfl, (blk_cell BK483.out 2).trans rfl, (blk_cell BK483.out 3).trans rfl, (blk_cell BK483.out 4).trans rfl, (blk_cell BK452.out 0).trans rfl, (blk_cell BK452.out 1).trans rfl, (blk_cell BK452.out 2).trans rfl, (blk_cell BK452.out 3).trans rfl, (blk_cell BK452.out 4).trans rfl⟩ (fun hHeld => ?_)
   clear hK K
   refine norm_ (a' := ?_) ?_ ?_
   rotate_left
   ·show Act.put _ (some 38) _ = _
    simp only [Act.put, List.setIfInBounds_toArray, List.set_cons_zero, List.set_cons_succ, i64_w, i32_w]
    rfl
   refine pure_ (i := 4) (N := some 39) (v := ?_) (a' := ?_) (tf 5 0) rfl rfl (by kernel_rfl) (fun _ _ _ h => h) (Or.inl ⟨by rfl, ?_⟩) ?_ ?_
   rotate_left
   ·intro w'
    go_simp
    with_reducible rfl
   rotate_left
   ·simp only [Act.put, List.setIfInBounds_toArray, List.set_cons_zero, List.set_cons_succ, i64_w, i32_w]
    rfl
   refine done_ (by kernel_rfl) ?_
   go_upto_if 39 with (fail)
   have H := HC39.out
   clear HC39
   replace H := kb_ H; rcases H with ⟨rfl, H⟩ | ⟨rfl, H⟩
   ·replace H := bi_ H; obtain ⟨t502, A48, H⟩ := H
    have HC49 := q_ H
    clear H
    have hnb50 := NB483_452.out
    have hnc50 := NB452_483.out
    obtain ⟨hz_, hz_, hz_, hz_, hz_, hz_, hz_, hz_, hz_, hz_⟩ := cs5_ BK483.out
    go_upto_region 14 with (first | ((with_reducible refine gate_callee (f := 29) rfl ?_); refine goesL_ (some 42) rfl rfl Try.func29 (by kernel_rfl) rfl #[.agg #[.bool t470, .slice Ao28 t471.length co28, .slice Ao29 t474.length co29, .slice Ao30 t477.length co30, .slice Ao31 t480.length co31], .int .i64 1] rfl z0_ ?_; (with_reducible refine (laws_markTree.calls t470 (fun k_ => some k_ = (.slice Ao28 t471.length co28 : Value).ownBlock) (.slice Ao28 t471.length co28) t471 (fun k_ => some k_ = (.slice Ao29 t474.length co29 : Value).ownBlock) (.slice Ao29 t474.length co29) t474 ?mkP_ (.slice Ao30 t477.length co30) t477 (fun k_ => some k_ = (.slice Ao31 t480.length co31 : Value).ownBlock) (.slice Ao31 t480.length co31) t480 1 t502 w _ ?side1 ?side2 ?side3 ?side4 ?side5 A48.out).mono ?_); (case side1 => repeat (first | (with_reducible first | exact HB.out | apply below_alloc | apply pw_below_drewN | apply below_drew1 | refine below_set ?_ GE452.out | refine below_set ?_ GE483.out) | exact HB.out)); (case side2 => exact Kd.R_tight rfl HO473.out); (case side3 => exact Kd.R_tight rfl HO476.out); (case side4 => exact Kd.R_bound HO479.out); (case side5 => exact Kd.R_tight rfl HO482.out); rintro e w52 ⟨rfl, hb, hkp⟩; refine ⟨_, rfl, ?_⟩; replace BK452 := q_ (blk_kept z45_ hkp (fun hs_ => Or.elim hs_ (fun e_ => (fun e_ => (Kd.R_ne HO473.out BK452.out (by decide)) e_) e_) (fun e_ => Or.elim e_ (fun e_ => (fun e_ => (Kd.R_ne HO476.out BK452.out (by decide)) e_) e_) (fun e_ => Or.elim e_ (fun e_ => (fun e_ => mark_far e_.2 z45_ (by decide)) e_) (fun e_ => (fun e_ => (Kd.R_ne HO482.out BK452.out (by decide)) e_) e_))))); replace HO457 := q_ (Kd.R_mono (ok' := fun k_ => some k_ ≠ (.slice Ao34 t467.length co34 : Value).ownBlock ∧ some k_ ≠ (.slice Ao33 t484.length co33 : Value).ownBlock ∧ some k_ ≠ (.slice Ao42 t489.length co42 : Value).ownBlock) (Kd.R_keptB ((Kd.R_apart' (Kd.R_tight2 rfl (Kd.R_apart' HO457.out (Kd.R_typed HO476.out) (by decide))) (Kd.R_typed HO482.out) (by decide))) hkp (fun k_ hk_ hs_ => Or.elim hs_ (fun e_ => (hk_.1.2.1.1.1.2) e_) (fun e_ => Or.elim e_ (fun e_ => (hk_.1.2.2) e_) (fun e_ => Or.elim e_ (fun e_ => (fun e_ => (e_.1.1.1.1.1.1.1.1.1.1.1.2) (hk_.1.1)) e_) (fun e_ => (hk_.2) e_))))) (fun k_ hk_ => ⟨hk_.1.1.2.1.1.1.1.2, hk_.1.1.2.1.1.2, hk_.1.1.2.1.2⟩)); replace HO460 := q_ (Kd.R_mono (ok' := fun k_ => some k_ ≠ (.slice Ao43 t492.length co43 : Value).ownBlock) (Kd.R_keptB ((Kd.R_apart' (Kd.R_tight2 rfl (Kd.R_apart' HO460.out (Kd.R_typed HO473.out) (by decide))) (Kd.R_typed HO482.out) (by decide))) hkp (fun k_ hk_ hs_ => Or.elim hs_ (fun e_ => (hk_.1.2.2) e_) (fun e_ => Or.elim e_ (fun e_ => (hk_.1.2.1.1.2) e_) (fun e_ => Or.elim e_ (fun e_ => (fun e_ => (e_.1.1.1.1.1.1.1.1.1.1.2) (hk_.1.1)) e_) (fun e_ => (hk_.2) e_))))) (fun k_ hk_ => hk_.1.1.2.1.2)); replace HO466 := q_ (Kd.R_mono (ok' := fun k_ => some k_ ≠ (.slice Ao45 t498.length co45 : Value).ownBlock) (Kd.R_keptB ((Kd.R_tight2 rfl (Kd.R_apart' (Kd.R_apart' HO466.out (Kd.R_typed HO473.out) (by decide)) (Kd.R_typed HO476.out) (by decide)))) hkp (fun k_ hk_ hs_ => Or.elim hs_ (fun e_ => (hk_.2.1.2) e_) (fun e_ => Or.elim e_ (fun e_ => (hk_.2.2) e_) (fun e_ => Or.elim e_ (fun e_ => (fun e_ => (e_.1.1.1.1.1.1.1.1.2) (hk_.1)) e_) (fun e_ => (hk_.2.1.1.1.2) e_))))) (fun k_ hk_ => hk_.1.2.1.1.2)); replace HO469 := q_ (Kd.R_mono (ok' := fun k_ => some k_ ≠ (.slice Ao18 t455.length co18 : Value).ownBlock ∧ some k_ ≠ (.slice Ao33 t484.length co33 : Value).ownBlock ∧ some k_ ≠ (.slice Ao42 t489.length co42 : Value).ownBlock) (Kd.R_keptB ((Kd.R_apart' (Kd.R_tight2 rfl (Kd.R_apart' HO469.out (Kd.R_typed HO476.out) (by decide))) (Kd.R_typed HO482.out) (by decide))) hkp (fun k_ hk_ hs_ => Or.elim hs_ (fun e_ => (hk_.1.2.1.1.1.2) e_) (fun e_ => Or.elim e_ (fun e_ => (hk_.1.2.2) e_) (fun e_ => Or.elim e_ (fun e_ => (fun e_ => (e_.1.1.1.1.1.1.1.2) (hk_.1.1)) e_) (fun e_ => (hk_.2) e_))))) (fun k_ hk_ => ⟨hk_.1.1.2.1.1.1.1.2, hk_.1.1.2.1.1.2, hk_.1.1.2.1.2⟩)); replace BK483 := q_ (blk_kept z68_ hkp (fun hs_ => Or.elim hs_ (fun e_ => (fun e_ => (Kd.R_ne HO473.out BK483.out (by decide)) e_) e_) (fun e_ => Or.elim e_ (fun e_ => (fun e_ => (Kd.R_ne HO476.out BK483.out (by decide)) e_) e_) (fun e_ => Or.elim e_ (fun e_ => (fun e_ => (e_.1.1.1.1.1.1.2) rfl) e_) (fun e_ => (fun e_ => (Kd.R_ne HO482.out BK483.out (by decide)) e_) e_))))); replace HO486 := q_ (Kd.R_mono (ok' := fun k_ => some k_ ≠ (.slice Ao18 t455.length co18 : Value).ownBlock ∧ some k_ ≠ (.slice Ao34 t467.length co34 : Value).ownBlock ∧ some k_ ≠ (.slice Ao42 t489.length co42 : Value).ownBlock) (Kd.R_keptB ((Kd.R_apart' (Kd.R_tight2 rfl (Kd.R_apart' HO486.out (Kd.R_typed HO476.out) (by decide))) (Kd.R_typed HO482.out) (by decide))) hkp (fun k_ hk_ hs_ => Or.elim hs_ (fun e_ => (hk_.1.2.1.1.2) e_) (fun e_ => Or.elim e_ (fun e_ => (hk_.1.2.2) e_) (fun e_ => Or.elim e_ (fun e_ => (fun e_ => (e_.1.1.1.1.1.2) (hk_.1.1)) e_) (fun e_ => (hk_.2) e_))))) (fun k_ hk_ => ⟨hk_.1.1.2.1.1.1.1.2, hk_.1.1.2.1.1.1.2, hk_.1.1.2.1.2⟩)); replace HO491 := q_ (Kd.R_mono (ok' := fun k_ => some k_ ≠ (.slice Ao18 t455.length co18 : Value).ownBlock ∧ some k_ ≠ (.slice Ao34 t467.length co34 : Value).ownBlock ∧ some k_ ≠ (.slice Ao33 t484.length co33 : Value).ownBlock) (Kd.R_keptB ((Kd.R_apart' (Kd.R_tight2 rfl (Kd.R_apart' HO491.out (Kd.R_typed HO476.out) (by decide))) (Kd.R_typed HO482.out) (by decide))) hkp (fun k_ hk_ hs_ => Or.elim hs_ (fun e_ => (hk_.1.2.1.1.2) e_) (fun e_ => Or.elim e_ (fun e_ => (hk_.1.2.2) e_) (fun e_ => Or.elim e_ (fun e_ => (fun e_ => (e_.1.1.1.1.2) (hk_.1.1)) e_) (fun e_ => (hk_.2) e_))))) (fun k_ hk_ => ⟨hk_.1.1.2.1.1.1.1.2, hk_.1.1.2.1.1.1.2, hk_.1.1.2.1.2⟩)); replace HO494 := q_ (Kd.R_mono (ok' := fun k_ => some k_ ≠ (.slice Ao19 t458.length co19 : Value).ownBlock) (Kd.R_keptB ((Kd.R_apart' (Kd.R_tight2 rfl (Kd.R_apart' HO494.out (Kd.R_typed HO473.out) (by decide))) (Kd.R_typed HO482.out) (by decide))) hkp (fun k_ hk_ hs_ => Or.elim hs_ (fun e_ => (hk_.1.2.2) e_) (fun e_ => Or.elim e_ (fun e_ => (hk_.1.2.1.2) e_) (fun e_ => Or.elim e_ (fun e_ => (fun e_ => (e_.1.1.1.2) (hk_.1.1)) e_) (fun e_ => (hk_.2) e_))))) (fun k_ hk_ => hk_.1.1.2.1.1.2)); replace HO500 := q_ (Kd.R_mono (ok' := fun k_ => some k_ ≠ (.slice Ao21 t464.length co21 : Value).ownBlock) (Kd.R_keptB ((Kd.R_tight2 rfl (Kd.R_apart' (Kd.R_apart' HO500.out (Kd.R_typed HO473.out) (by decide)) (Kd.R_typed HO476.out) (by decide)))) hkp (fun k_ hk_ hs_ => Or.elim hs_ (fun e_ => (hk_.2.1.2) e_) (fun e_ => Or.elim e_ (fun e_ => (hk_.2.2) e_) (fun e_ => Or.elim e_ (fun e_ => (fun e_ => (e_.1.2) (hk_.1)) e_) (fun e_ => (hk_.2.1.1.2) e_))))) (fun k_ hk_ => hk_.1.2.1.1.1.2)); replace HB := q_ (hb); clear HO463 HO473 HO476 HO479 HO482 HO497; (try clear hb); (try clear hkp)))
    (try simp only [Act.put, List.setIfInBounds_toArray, List.set_cons_zero, List.set_cons_succ])
    go_cut [50] (fun v50 wc => ∃ (kq : Nat) (x50_48 : Bool), v50 = .bool x50_48 ∧ Aside0 (laws_FnExactTreeRange.j0 kq a1 a2 t467 t484 x50_48 a0_0 l0_1 l0_2 l0_3 l0_4 = some r) ∧ Aside0 (kq ≤ k) ∧ Aside0 (Kd.R k92 92 wc w.heap.size (fun k_ => some k_ ≠ ((.slice Ao33 t484.length co33) : Value).ownBlock) (.slice Ao34 t467.length co34) t467) ∧ Aside0 (Kd.R k92 92 wc w.heap.size (fun k_ => some k_ ≠ ((.slice Ao34 t467.length co34) : Value).ownBlock) (.slice Ao33 t484.length co33) t484) ∧ Aside0 (wc.heap[gb452]? = some (.cells #[.bool a0_0, (.slice A0_1 l0_1.length c0_1), (.slice A0_2 l0_2.length c0_2), (.slice A0_3 l0_3.length c0_3), (.slice A0_4 l0_4.length c0_4)] 27 (0, 0))) ∧ Aside0 (Below w.heap.size w wc))
    case first =>
     have H := HC49.out
     clear HC49
     replace H := kd_ H; rcases H with ⟨c53b0, H⟩ | ⟨c53b0, H⟩
     ·(first | rw [c53b0] | rw [c53b1] | (simp only [i64_w, i32_w]; first | rw [c53b0] | rw [c53b1]) | rw [c53b2] | skip)
      have H' := q_ H
      clear H
      go_wp2
      go_meet
      case rel => exact ⟨_, (true), z4_, H', ⟨z34_⟩, ⟨z64_⟩, ⟨z65_⟩, ⟨z45_⟩, ⟨cb_⟩⟩
     ·(first | rw [c53b0] | rw [c53b1] | (simp only [i64_w, i32_w]; first | rw [c53b0] | rw [c53b1]) | rw [c53b2] | skip)
      replace H := bi_ H; obtain ⟨t503, A54, H⟩ := H
      have H' := q_ H
      clear H
      go_wp2_with (first | (go_at_call 38; (with_reducible refine (laws_eqPairS.calls k _ _ t484 _ _ t467 t503 _ ?side1 ?side2 ?side3 ?side4 A54.out).mono ?_); (case side1 => exact z119_); (case side2 => exact (Kd.R_reads' HO486.out).2.1); (case side3 => exact z120_); (case side4 => exact (Kd.R_reads' HO469.out).2.1); rintro e w55 ⟨rfl, hb⟩; replace HO457 := q_ (Kd.R_below z19_ hb); replace HO460 := q_ (Kd.R_below z22_ hb); replace HO466 := q_ (Kd.R_below z23_ hb); replace HO469 := q_ (Kd.R_below z26_ hb); replace HO486 := q_ (Kd.R_below z41_ hb); replace HO491 := q_ (Kd.R_below z75_ hb); replace HO494 := q_ (Kd.R_below z76_ hb); replace HO500 := q_ (Kd.R_below z77_ hb); replace BK452 := rb_ BK452 hb; replace HB := hb_ hb; (try clear hb); (try clear hb2); (try clear hk); (try clear hi)))
      go_meet
      case rel => exact ⟨_, (!t503), z4_, H', ⟨z34_⟩, ⟨z64_⟩, ⟨z65_⟩, ⟨z45_⟩, ⟨cb_⟩⟩
    case rest =>
     clear HC49
     try clear c1
     try clear c2
     try clear p2
     try clear c3
     try clear c4
     try clear c5
     try clear c9
     try clear c9b0
     try clear c9b1
     try clear c9b2
     try clear c11
     try clear c15
     try clear c17
     try clear c19
     try clear c26
     try clear c29
     try clear c36
     try clear c38
     try clear c41
     try clear c42
     try clear c47
     try clear c50
     try clear c53
     try clear c53b0
     try clear c53b1
     try clear c53b2
     repeat clear hz_
     obtain ⟨kq, x50_48, rfl, HA, HJ48, HO_8, HO_10, BK452, HB⟩ := hcut
     obtain ⟨kj48, rfl, H⟩ := rn_ (k := kq) HA (by rintro rfl; simp only [laws_FnExactTreeRange.j0])
     clear HA
     simp only [laws_FnExactTreeRange.j0] at H
     replace H := kb_ H; rcases H with ⟨rfl, H⟩ | ⟨rfl, H⟩
     ·obtain rfl := si_ H
      go_wp2
      go_ret
      exact ⟨z2_, cb_⟩
     ·replace H := bi_ H; obtain ⟨⟨t504, t505⟩, A57, H⟩ := H
      (try dsimp only at H)
      replace H := bi_ H; obtain ⟨t506, A58, H⟩ := H
      have HC59 := q_ H
      clear H
      go_upto_if 58 with (first | ((with_reducible refine gate_callee (f := 39) rfl ?_); refine goesL_ (some 53) rfl rfl Try.func39 (by kernel_rfl) rfl #[.slice Ao33 t484.length co33, .int .i64 1] rfl z0_ ?_; (with_reducible refine (laws_markPairS.calls kj48 (fun k_ => some k_ = (.slice Ao33 t484.length co33 : Value).ownBlock) (.slice Ao33 t484.length co33) t484 1 t504 t505 w _ ?side1 ?side2 A57.out).mono ?_); (case side1 => repeat (first | (with_reducible first | exact HB.out | apply below_alloc | apply pw_below_drewN | apply below_drew1 | refine below_set ?_ GE452.out) | exact HB.out)); (case side2 => exact Kd.R_tight rfl HO_10.out); rintro e w60 ⟨rfl, hy0, hb, hkp⟩; refine ⟨_, rfl, ?_⟩; replace HO_8 := q_ (Kd.R_mono (ok' := fun k_ => some k_ ≠ (.slice Ao33 t484.length co33 : Value).ownBlock) (Kd.R_keptB (HO_8.out) hkp (fun k_ hk_ hs_ => (hk_) hs_)) (fun k_ hk_ => hk_.1)); replace BK452 := q_ (blk_kept z45_ hkp (fun hs_ => (fun e_ => (Kd.R_ne HO_10.out BK452.out (by decide)) e_) hs_)); replace HO_10 := q_ (Kd.R_reok rfl hy0 (fun k_ e_ => HO_10.out.1 k_ e_)); replace HB := q_ (hb); (try clear hb); (try clear hkp); (try clear hy0)) | ((with_reducible refine gate_callee (f := 40) rfl ?_); refine goesL_ (some 56) rfl rfl Try.func40 (by kernel_rfl) rfl #[.slice Ao33 t505.length co33, .int .i64 1] rfl z54_ ?_; (with_reducible refine (laws_heldPairS.calls kj48 _ _ t505 1 t506 _ ?side1 ?side2 A58.out).mono ?_); (case side1 => exact z121_); (case side2 => exact z129_); rintro e w' ⟨rfl, ⟨nd, rfl⟩⟩; refine ⟨_, rfl, ?_⟩))
      (try simp only [Act.put, List.setIfInBounds_toArray, List.set_cons_zero, List.set_cons_succ])
      have H := HC59.out
      clear HC59
      replace H := kd_ H; rcases H with ⟨c61b0, H⟩ | ⟨c61b0, H⟩
      ·(first | rw [c61b0] | rw [c61b1] | (simp only [i64_w, i32_w]; first | rw [c61b0] | rw [c61b1]) | rw [c61b2] | skip)
       obtain rfl := si_ H
       go_wp2
       go_ret
       exact ⟨z2_, cb_⟩
      ·(first | rw [c61b0] | rw [c61b1] | (simp only [i64_w, i32_w]; first | rw [c61b0] | rw [c61b1]) | rw [c61b2] | skip)
       replace H := ke_ H; rcases H with ⟨c62b0, c62b1, H⟩ | ⟨c62, c62b0, c62b1, H⟩
       ·replace H := bi_ H; obtain ⟨⟨t507, t508, t511, t514, t517⟩, A63, H⟩ := H
        (try dsimp only at H)
        replace H := bi_ H; obtain ⟨t520, A64, H⟩ := H
        replace H := bi_ H; obtain ⟨t523, A65, H⟩ := H
        have HC66 := q_ H
        clear H
        obtain ⟨hz_, hz_, hz_, hz_, hz_, hz_, hz_, hz_, hz_, hz_⟩ := cs5_ BK452.out
        go_upto_if 70 with (first | ((with_reducible refine gate_callee (f := 17) rfl ?_); refine goesL_ (some 63) rfl rfl Try.func17 (by kernel_rfl) rfl #[.agg #[.bool a0_0, .slice A0_1 l0_1.length c0_1, .slice A0_2 l0_2.length c0_2, .slice A0_3 l0_3.length c0_3, .slice A0_4 l0_4.length c0_4]] rfl z0_ ?_; (with_reducible refine (laws_toTree.calls kj48 a0_0 _ _ l0_1 _ _ l0_2 _ _ l0_3 _ _ l0_4 t507 t508 t511 t514 t517 _ ?side1 ?side2 ?side3 ?side4 ?side5 ?side6 ?side7 ?side8 A63.out).mono ?_); (case side1 => repeat (first | exact (Kd.C_below HR0_1.out cb_) | (with_reducible refine Kd.C_alloc ?_ _) | (with_reducible refine Kd.C_drewN ?_ _) | (with_reducible refine Kd.C_drew ?_))); (case side2 => exact z117_); (case side3 => exact z123_); (case side4 => exact HC0_2.out); (case side5 => exact z112_); (case side6 => exact HC0_3.out); (case side7 => repeat (first | exact (Kd.C_below HR0_4.out cb_) | (with_reducible refine Kd.C_alloc ?_ _) | (with_reducible refine Kd.C_drewN ?_ _) | (with_reducible refine Kd.C_drew ?_))); (case side8 => exact z122_); rintro e w68 ⟨v509, v512, v515, v518, rfl, ho0, ho1, ho2, ho3, hb⟩; refine ⟨_, rfl, ?_⟩; have HO510 := q_ (Kd.R_lower (Kd.R_new' (Kd.R_new' ho0 (Kd.R_lt z29_)) (Kd.R_lt z42_)) (below_size cb_)); have HO513 := q_ (Kd.R_lower ho1 (below_size cb_)); have HO516 := q_ (Kd.R_lower (Kd.R_new' (Kd.R_new' ho2 (Kd.R_lt z29_)) (Kd.R_lt z42_)) (below_size cb_)); replace HO_8 := q_ (Kd.R_elder' z29_ (Kd.R_base ho0) hb); replace HO_10 := q_ (Kd.R_elder' z42_ (Kd.R_base ho0) hb); have HO519 := q_ (Kd.R_lower ho3 (below_size cb_)); replace BK452 := rb_ BK452 hb; replace HB := hb_ hb; (try clear hb); (try clear hb2); (try clear hk); (try clear hi); (try clear ho0); (try clear ho1); (try clear ho2); (try clear ho3); obtain ⟨Ao69, co69, eo69⟩ := Kd.R_slice HO510.out; subst eo69; obtain ⟨Ao70, co70, eo70⟩ := Kd.R_slice HO513.out; subst eo70; obtain ⟨Ao71, co71, eo71⟩ := Kd.R_slice HO516.out; subst eo71; obtain ⟨Ao72, co72, eo72⟩ := Kd.R_slice HO519.out; subst eo72) | ((with_reducible refine gate_callee (f := 42) rfl ?_); refine goesL_ (some 66) rfl rfl Try.func42 (by kernel_rfl) rfl #[.agg #[.bool t507, .slice Ao69 t508.length co69, .slice Ao70 t511.length co70, .slice Ao71 t514.length co71, .slice Ao72 t517.length co72], .int .i64 a1, .int .i64 a2] rfl z0_ ?_; (with_reducible refine (impl_TreeRange.calls kj48 t507 _ _ t508 _ _ t511 _ _ t514 _ _ t517 a1 a2 t520 _ ?side1 ?side2 ?side3 ?side4 ?side5 ?side6 ?side7 ?side8 A64.out).mono ?_); (case side1 => repeat (first | exact (Kd.R_reads' HO510.out).2.2 | (with_reducible refine Kd.C_alloc ?_ _) | (with_reducible refine Kd.C_drewN ?_ _) | (with_reducible refine Kd.C_drew ?_))); (case side2 => exact (Kd.R_reads' HO510.out).2.1); (case side3 => repeat (first | exact (Kd.R_reads' HO513.out).2.2 | (with_reducible refine Kd.C_alloc ?_ _) | (with_reducible refine Kd.C_drewN ?_ _) | (with_reducible refine Kd.C_drew ?_))); (case side4 => exact (Kd.R_reads' HO513.out).2.1); (case side5 => repeat (first | exact (Kd.R_reads' HO516.out).2.2 | (with_reducible refine Kd.C_alloc ?_ _) | (with_reducible refine Kd.C_drewN ?_ _) | (with_reducible refine Kd.C_drew ?_))); (case side6 => exact (Kd.R_reads' HO516.out).2.1); (case side7 => repeat (first | exact (Kd.R_reads' HO519.out).2.2 | (with_reducible refine Kd.C_alloc ?_ _) | (with_reducible refine Kd.C_drewN ?_ _) | (with_reducible refine Kd.C_drew ?_))); (case side8 => exact (Kd.R_reads' HO519.out).2.1); rintro e w73 ⟨v521, rfl, ho0, hb⟩; refine ⟨_, rfl, ?_⟩; replace HO513 := q_ (Kd.R_below z78_ hb); replace HO516 := q_ (Kd.R_elder' z79_ (Kd.R_base ho0) hb); replace HO519 := q_ (Kd.R_below z80_ hb); have HO522 := q_ (Kd.R_lower (Kd.R_new' (Kd.R_new' (Kd.R_new' ho0 (Kd.R_lt z29_)) (Kd.R_lt z42_)) (Kd.R_lt z62_)) (below_size cb_)); replace HO_8 := q_ (Kd.R_elder' z29_ (Kd.R_base ho0) hb); replace HO_10 := q_ (Kd.R_elder' z42_ (Kd.R_base ho0) hb); replace HO510 := q_ (Kd.R_elder' z62_ (Kd.R_base ho0) hb); replace BK452 := rb_ BK452 hb; replace HB := hb_ hb; (try clear hb); (try clear hb2); (try clear hk); (try clear hi); (try clear ho0); obtain ⟨Ao74, co74, eo74⟩ := Kd.R_slice HO522.out; subst eo74) | ((with_reducible refine gate_callee (f := 38) rfl ?_); refine goesL_ (some 69) rfl rfl Try.func38 (by kernel_rfl) rfl #[.slice Ao74 t520.length co74, .slice Ao34 t467.length co34] rfl z0_ ?_; (with_reducible refine (laws_eqPairS.calls kj48 _ _ t520 _ _ t467 t523 _ ?side1 ?side2 ?side3 ?side4 A65.out).mono ?_); (case side1 => repeat (first | exact (Kd.R_reads' HO522.out).2.2 | (with_reducible refine Kd.C_alloc ?_ _) | (with_reducible refine Kd.C_drewN ?_ _) | (with_reducible refine Kd.C_drew ?_))); (case side2 => exact (Kd.R_reads' HO522.out).2.1); (case side3 => repeat (first | exact (Kd.R_reads' HO_8.out).2.2 | (with_reducible refine Kd.C_alloc ?_ _) | (with_reducible refine Kd.C_drewN ?_ _) | (with_reducible refine Kd.C_drew ?_))); (case side4 => exact (Kd.R_reads' HO_8.out).2.1); rintro e w75 ⟨rfl, hb⟩; refine ⟨_, rfl, ?_⟩; replace HO_8 := q_ (Kd.R_below z29_ hb); replace HO_10 := q_ (Kd.R_below z42_ hb); replace HO510 := q_ (Kd.R_below z62_ hb); replace HO513 := q_ (Kd.R_below z78_ hb); replace HO516 := q_ (Kd.R_below z79_ hb); replace HO519 := q_ (Kd.R_below z80_ hb); replace HO522 := q_ (Kd.R_below (by (with_reducible repeat (first | apply Kd.R_alloc | apply Kd.R_drewN | apply Kd.R_drew)); exact HO522.out) hb); replace BK452 := rb_ BK452 hb; replace HB := hb_ hb; (try clear hb); (try clear hb2); (try clear hk); (try clear hi)))
        (try simp only [Act.put, List.setIfInBounds_toArray, List.set_cons_zero, List.set_cons_succ])
        have H := HC66.out
        clear HC66
        replace H := kb_ H; rcases H with ⟨rfl, H⟩ | ⟨rfl, H⟩
        ·replace H := bi_ H; obtain ⟨t524, A77, H⟩ := H
         have HC78 := q_ H
         clear H
         go_upto_if 75 with (first | ((with_reducible refine gate_callee (f := 40) rfl ?_); refine goesL_ (some 73) rfl rfl Try.func40 (by kernel_rfl) rfl #[.slice Ao33 t505.length co33, .int .i64 1] rfl z54_ ?_; (with_reducible refine (laws_heldPairS.calls kj48 _ _ t505 1 t524 _ ?side1 ?side2 A77.out).mono ?_); (case side1 => exact z121_); (case side2 => exact z129_); rintro e w' ⟨rfl, ⟨nd, rfl⟩⟩; refine ⟨_, rfl, ?_⟩))
         (try simp only [Act.put, List.setIfInBounds_toArray, List.set_cons_zero, List.set_cons_succ])
         have H := HC78.out
         clear HC78
         replace H := kd_ H; rcases H with ⟨c79b0, H⟩ | ⟨c79b0, H⟩
         ·(first | rw [c79b0] | rw [c79b1] | (simp only [i64_w, i32_w]; first | rw [c79b0] | rw [c79b1]) | rw [c79b2] | skip)
          obtain rfl := si_ H
          go_wp2
          go_ret
          exact ⟨z2_, cb_⟩
         ·(first | rw [c79b0] | rw [c79b1] | (simp only [i64_w, i32_w]; first | rw [c79b0] | rw [c79b1]) | rw [c79b2] | skip)
          replace H := ke_ H; rcases H with ⟨c80b0, c80b1, H⟩ | ⟨c80, c80b0, c80b1, H⟩
          ·obtain rfl := si_ H
           go_wp2
           go_ret
           exact ⟨z2_, cb_⟩
          ·obtain rfl := si_ H
           go_wp2
           go_ret
           exact ⟨z2_, cb_⟩
        ·obtain rfl := si_ H
         go_wp2
         go_ret
         exact ⟨z2_, cb_⟩
       ·obtain rfl := si_ H
        go_wp2
        go_ret
        exact ⟨z2_, cb_⟩
   ·obtain rfl := si_ H
    go_wp2
    go_ret
    exact ⟨z2_, cb_⟩
  ·obtain rfl := si_ H
   go_wp2
   go_ret
   exact ⟨z2_, cb_⟩

end Go.Proofs.Ytfnndcpaldkkoaa.PFnExactTreeRange
