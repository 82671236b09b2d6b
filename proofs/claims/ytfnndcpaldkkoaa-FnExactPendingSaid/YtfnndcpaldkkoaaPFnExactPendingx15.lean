-- Written by a program of this session, which goes by the kit's print. Not trusted: Lean checks it.
import Derived.Test.YtfnndcpaldkkoaaPFnExactPendingx0
import Derived.Test.YtfnndcpaldkkoaaPFnExactPendingx1
import Derived.Test.YtfnndcpaldkkoaaPFnExactPendingx2
import Derived.Test.YtfnndcpaldkkoaaPFnExactPendingx4
import Derived.Test.YtfnndcpaldkkoaaPFnExactPendingx8
import Derived.Test.YtfnndcpaldkkoaaPFnExactPendingx12
import Derived.Test.YtfnndcpaldkkoaaPFnExactPendingx13
import Derived.Test.YtfnndcpaldkkoaaPFnExactPendingx14
namespace Go.Proofs.Ytfnndcpaldkkoaa.PFnExactPending
open Go.RowKit Go.Proofs.YtfnndcpaldkkoaaW.PrintWords Go.Proofs.YtfnndcpaldkkoaaW.PrintLast Go.Proofs.YtfnndcpaldkkoaaW.PrintMore
attribute [local go_sem] Instr.field asAgg max2_int min2_int max_two min_two max_three min_three max_four min_four   -- for this text's walks alone
set_option linter.unusedVariables false
set_option linter.unusedSimpArgs false

/-! ### laws_FnExactPending: function 7 -/
def laws_FnExactPending.j0 : Nat → Int → List (S72) → List (S72) → Bool → Bool → List (S107) → List Int → List (S27) → List (S109) → Option (Bool)
 | 0, _, _, _, _, _, _, _, _, _ => none
 | k + 1, x1, x6, x8, x46, x319000, x319001, x319002, x319003, x319004 => if x46 = true then (some false) else ((laws_markMsgS.f k x8 1).bind fun bt370 => ((laws_heldMsgS.f k bt370.2 1).bind fun t372 => (if t372 < 0 then (some false) else (if t372 = bt370.1 then ((laws_toTree.f k x319000 x319001 x319002 x319003 x319004).bind fun bt373 => ((impl_Pending.f k bt373.1 bt373.2.1 bt373.2.2.1 bt373.2.2.2.1 bt373.2.2.2.2 x1).bind fun t386 => ((laws_eqMsgS.f k t386 x6).bind fun t389 => (if t389 = true then ((laws_heldMsgS.f k bt370.2 1).bind fun t390 => (if t390 < 0 then (some false) else (if t390 = bt370.1 then (some true) else (some false)))) else (some false))))) else (some false)))))
def laws_FnExactPending.f (k : Nat) (a0_0 : Bool) (l0_1 : List (S107)) (l0_2 : List Int) (l0_3 : List (S27)) (l0_4 : List (S109)) (a1 : Int) : Option (Bool) := (laws_szTree.f k a0_0 l0_1 l0_2 l0_3 l0_4 1048576).bind fun t319 => (if t319 < 0 then (some true) else ((laws_toTree.f k a0_0 l0_1 l0_2 l0_3 l0_4).bind fun bt320 => ((spec_Pending.f k bt320.1 bt320.2.1 bt320.2.2.1 bt320.2.2.2.1 bt320.2.2.2.2 a1).bind fun t333 => ((laws_toTree.f k a0_0 l0_1 l0_2 l0_3 l0_4).bind fun bt336 => ((impl_Pending.f k bt336.1 bt336.2.1 bt336.2.2.1 bt336.2.2.2.1 bt336.2.2.2.2 a1).bind fun t350 => ((laws_eqMsgS.f k t350 t333).bind fun t353 => (if t353 = true then ((laws_toTree.f k a0_0 l0_1 l0_2 l0_3 l0_4).bind fun bt354 => ((laws_eqTree.f k bt336.1 bt336.2.1 bt336.2.2.1 bt336.2.2.2.1 bt336.2.2.2.2 bt354.1 bt354.2.1 bt354.2.2.1 bt354.2.2.2.1 bt354.2.2.2.2).bind fun t367 => (if t367 = true then ((laws_markTree.f bt336.1 bt336.2.1 bt336.2.2.1 bt336.2.2.2.1 bt336.2.2.2.2 1).bind fun t368 => (if t368 < 0 then (laws_FnExactPending.j0 k a1 t333 t350 true a0_0 l0_1 l0_2 l0_3 l0_4) else ((laws_eqMsgS.f k t350 t333).bind fun t369 => (laws_FnExactPending.j0 k a1 t333 t350 (!t369) a0_0 l0_1 l0_2 l0_3 l0_4)))) else (some false)))) else (some false))))))))
theorem laws_FnExactPending.mono_l : ∀ k, (∀ y0 y1 y2 y3 y4 y5 y6 y7 y8, LeO (laws_FnExactPending.j0 k y0 y1 y2 y3 y4 y5 y6 y7 y8) (laws_FnExactPending.j0 (k + 1) y0 y1 y2 y3 y4 y5 y6 y7 y8))
 | 0 => fun _ _ _ _ _ _ _ _ _ r h => by simp [laws_FnExactPending.j0] at h
 | k + 1 => by
  have ih0 := laws_FnExactPending.mono_l k
  ·intro y0 y1 y2 y3 y4 y5 y6 y7 y8
   unfold laws_FnExactPending.j0
   have m0 := @impl_Pending.mono
   have m1 := @laws_eqMsgS.mono
   have m2 := @laws_eqTree.mono
   have m3 := @laws_heldMsgS.mono
   have m4 := @laws_markMsgS.mono
   have m5 := @laws_szTree.mono
   have m6 := @laws_toTree.mono
   have m7 := @spec_Pending.mono
   exact zm_
theorem laws_FnExactPending.mono : ∀ a0 a1 a2 a3 a4 a5 k, LeO (laws_FnExactPending.f k a0 a1 a2 a3 a4 a5) (laws_FnExactPending.f (k + 1) a0 a1 a2 a3 a4 a5) := by
 intro a0 a1 a2 a3 a4 a5 k
 have ih0 := laws_FnExactPending.mono_l k
 unfold laws_FnExactPending.f
 have m0 := @impl_Pending.mono
 have m1 := @laws_eqMsgS.mono
 have m2 := @laws_eqTree.mono
 have m3 := @laws_heldMsgS.mono
 have m4 := @laws_markMsgS.mono
 have m5 := @laws_szTree.mono
 have m6 := @laws_toTree.mono
 have m7 := @spec_Pending.mono
 exact zm_
set_option maxHeartbeats 8000000 in
set_option maxRecDepth 100000 in
theorem laws_FnExactPending.calls (k : Nat) (a0_0 : Bool) (A0_1 : Option Addr) (c0_1 : Nat) (l0_1 : List (S107)) (A0_2 : Option Addr) (c0_2 : Nat) (l0_2 : List Int) (A0_3 : Option Addr) (c0_3 : Nat) (l0_3 : List (S27)) (A0_4 : Option Addr) (c0_4 : Nat) (l0_4 : List (S109)) (a1 : Int) (r : Bool) (w : World) (hr0_1 : Kd.C k107 w A0_1 l0_1.length l0_1) (hc0_1 : l0_1.length ≤ c0_1) (hr0_2 : Kd.C (Kd.int .i64) w A0_2 l0_2.length l0_2) (hc0_2 : l0_2.length ≤ c0_2) (hr0_3 : Kd.C k27 w A0_3 l0_3.length l0_3) (hc0_3 : l0_3.length ≤ c0_3) (hr0_4 : Kd.C k109 w A0_4 l0_4.length l0_4) (hc0_4 : l0_4.length ≤ c0_4) (h : laws_FnExactPending.f k a0_0 l0_1 l0_2 l0_3 l0_4 a1 = some r) :
  Calls Try.prog 7 #[.agg #[.bool a0_0, .slice A0_1 l0_1.length c0_1, .slice A0_2 l0_2.length c0_2, .slice A0_3 l0_3.length c0_3, .slice A0_4 l0_4.length c0_4], .int .i64 a1] w fun e w' => e = .returned (.bool r) ∧ Below w.heap.size w w' := by
 have hu27 := Try.underlying27
 have hu34 := Try.underlying34
 have HR0_1 := q_ hr0_1
 have HC0_1 := q_ hc0_1
 clear hr0_1 hc0_1
 have HR0_2 := q_ hr0_2
 have HC0_2 := q_ hc0_2
 clear hr0_2 hc0_2
 have HR0_3 := q_ hr0_3
 have HC0_3 := q_ hc0_3
 clear hr0_3 hc0_3
 have HR0_4 := q_ hr0_4
 have HC0_4 := q_ hc0_4
 clear hr0_4 hc0_4
 have HB := q_ (Below.refl w.heap.size w)
 have H := h; clear h
 unfold laws_FnExactPending.f at H
 replace H := bi_ H; obtain ⟨t319, A3, H⟩ := H
 have HC4 := q_ H
 clear H
 go_enter Try.func7, Try.ntmps7
 go_upto_if 17 with (first | ((with_reducible refine gate_dst (N := 2) rfl ?_); refine box_event ?hg (N := 2) ?hd (cs := #[.bool a0_0, .slice A0_1 l0_1.length c0_1, .slice A0_2 l0_2.length c0_2, .slice A0_3 l0_3.length c0_3, .slice A0_4 l0_4.length c0_4]) (t := 27) ?hr ?_; (case hd => rfl); (case hg => rfl); (case hr => exact z76_); intro gb318 hg w5 hbox hb; have BK318 := q_ (hbox); have GW318 := ge_ hg; have GE318 := ge_ hg; replace HB := hb_ hb; clear hb hbox hg; obtain ⟨hz_, hz_, hz_, hz_, hz_, hz_, hz_, hz_, hz_, hz_⟩ := cs5_ BK318.out) | ((with_reducible refine gate_callee (f := 15) rfl ?_); refine goesL_ (some 15) rfl rfl Try.func15 (by kernel_rfl) rfl #[.agg #[.bool a0_0, .slice A0_1 l0_1.length c0_1, .slice A0_2 l0_2.length c0_2, .slice A0_3 l0_3.length c0_3, .slice A0_4 l0_4.length c0_4], .int .i64 1048576] rfl z0_ ?_; (with_reducible refine (laws_szTree.calls k a0_0 _ _ l0_1 _ _ l0_2 _ _ l0_3 _ _ l0_4 1048576 t319 _ ?side1 ?side2 ?side3 ?side4 ?side5 ?side6 ?side7 ?side8 A3.out).mono ?_); (case side1 => exact z75_); (case side2 => exact z95_); (case side3 => exact z78_); (case side4 => exact HC0_2.out); (case side5 => exact z79_); (case side6 => exact HC0_3.out); (case side7 => exact z77_); (case side8 => exact HC0_4.out); rintro e w7 ⟨rfl, hb⟩; refine ⟨_, rfl, ?_⟩; replace BK318 := rb_ BK318 hb; replace HB := hb_ hb; (try clear hb); (try clear hb2); (try clear hk); (try clear hi)))
 (try simp only [Act.put, List.setIfInBounds_toArray, List.set_cons_zero, List.set_cons_succ])
 have H := HC4.out
 clear HC4
 replace H := kd_ H; rcases H with ⟨c8b0, H⟩ | ⟨c8b0, H⟩
 ·(first | rw [c8b0] | rw [c8b1] | (simp only [i64_w, i32_w]; first | rw [c8b0] | rw [c8b1]) | rw [c8b2] | skip)
  obtain rfl := si_ H
  go_wp2
  go_ret
  exact ⟨z1_, cb_⟩
 ·(first | rw [c8b0] | rw [c8b1] | (simp only [i64_w, i32_w]; first | rw [c8b0] | rw [c8b1]) | rw [c8b2] | skip)
  replace H := bi_ H; obtain ⟨⟨t320, t321, t324, t327, t330⟩, A9, H⟩ := H
  (try dsimp only at H)
  replace H := bi_ H; obtain ⟨t333, A10, H⟩ := H
  replace H := bi_ H; obtain ⟨⟨t336, t337, t340, t343, t346⟩, A11, H⟩ := H
  (try dsimp only at H)
  replace H := bi_ H; obtain ⟨t350, A12, H⟩ := H
  replace H := bi_ H; obtain ⟨t353, A13, H⟩ := H
  have HC14 := q_ H
  clear H
  obtain ⟨hz_, hz_, hz_, hz_, hz_, hz_, hz_, hz_, hz_, hz_⟩ := cs5_ BK318.out
  go_upto_if 30 with (first | ((with_reducible refine gate_callee (f := 17) rfl ?_); refine goesL_ (some 19) rfl rfl Try.func17 (by kernel_rfl) rfl #[.agg #[.bool a0_0, .slice A0_1 l0_1.length c0_1, .slice A0_2 l0_2.length c0_2, .slice A0_3 l0_3.length c0_3, .slice A0_4 l0_4.length c0_4]] rfl z0_ ?_; (with_reducible refine (laws_toTree.calls k a0_0 _ _ l0_1 _ _ l0_2 _ _ l0_3 _ _ l0_4 t320 t321 t324 t327 t330 _ ?side1 ?side2 ?side3 ?side4 ?side5 ?side6 ?side7 ?side8 A9.out).mono ?_); (case side1 => exact z75_); (case side2 => exact z95_); (case side3 => exact z78_); (case side4 => exact HC0_2.out); (case side5 => exact z79_); (case side6 => exact HC0_3.out); (case side7 => exact z77_); (case side8 => exact HC0_4.out); rintro e w16 ⟨v322, v325, v328, v331, rfl, ho0, ho1, ho2, ho3, hb⟩; refine ⟨_, rfl, ?_⟩; have HO323 := q_ (Kd.R_lower ho0 (below_size cb_)); have HO326 := q_ (Kd.R_lower ho1 (below_size cb_)); have HO329 := q_ (Kd.R_lower ho2 (below_size cb_)); have HO332 := q_ (Kd.R_lower ho3 (below_size cb_)); replace BK318 := rb_ BK318 hb; replace HB := hb_ hb; (try clear hb); (try clear hb2); (try clear hk); (try clear hi); (try clear ho0); (try clear ho1); (try clear ho2); (try clear ho3); obtain ⟨Ao17, co17, eo17⟩ := Kd.R_slice HO323.out; subst eo17; obtain ⟨Ao18, co18, eo18⟩ := Kd.R_slice HO326.out; subst eo18; obtain ⟨Ao19, co19, eo19⟩ := Kd.R_slice HO329.out; subst eo19; obtain ⟨Ao20, co20, eo20⟩ := Kd.R_slice HO332.out; subst eo20) | ((with_reducible refine gate_callee (f := 26) rfl ?_); refine goesL_ (some 21) rfl rfl Try.func26 (by kernel_rfl) rfl #[.agg #[.bool t320, .slice Ao17 t321.length co17, .slice Ao18 t324.length co18, .slice Ao19 t327.length co19, .slice Ao20 t330.length co20], .int .i64 a1] rfl z0_ ?_; (with_reducible refine (spec_Pending.calls k t320 _ _ t321 _ _ t324 _ _ t327 _ _ t330 a1 t333 _ ?side1 ?side2 ?side3 ?side4 ?side5 ?side6 ?side7 ?side8 A10.out).mono ?_); (case side1 => repeat (first | exact (Kd.R_reads' HO323.out).2.2 | (with_reducible refine Kd.C_alloc ?_ _) | (with_reducible refine Kd.C_drewN ?_ _) | (with_reducible refine Kd.C_drew ?_))); (case side2 => exact (Kd.R_reads' HO323.out).2.1); (case side3 => repeat (first | exact (Kd.R_reads' HO326.out).2.2 | (with_reducible refine Kd.C_alloc ?_ _) | (with_reducible refine Kd.C_drewN ?_ _) | (with_reducible refine Kd.C_drew ?_))); (case side4 => exact (Kd.R_reads' HO326.out).2.1); (case side5 => repeat (first | exact (Kd.R_reads' HO329.out).2.2 | (with_reducible refine Kd.C_alloc ?_ _) | (with_reducible refine Kd.C_drewN ?_ _) | (with_reducible refine Kd.C_drew ?_))); (case side6 => exact (Kd.R_reads' HO329.out).2.1); (case side7 => repeat (first | exact (Kd.R_reads' HO332.out).2.2 | (with_reducible refine Kd.C_alloc ?_ _) | (with_reducible refine Kd.C_drewN ?_ _) | (with_reducible refine Kd.C_drew ?_))); (case side8 => exact (Kd.R_reads' HO332.out).2.1); rintro e w21 ⟨v334, rfl, ho0, hb⟩; refine ⟨_, rfl, ?_⟩; replace HO323 := q_ (Kd.R_below z21_ hb); replace HO326 := q_ (Kd.R_below z22_ hb); replace HO329 := q_ (Kd.R_elder' z25_ (Kd.R_base ho0) hb); have HO335 := q_ (Kd.R_lower (Kd.R_new' ho0 (Kd.R_lt z19_)) (below_size cb_)); replace HO332 := q_ (Kd.R_elder' z19_ (Kd.R_base ho0) hb); replace BK318 := rb_ BK318 hb; replace HB := hb_ hb; (try clear hb); (try clear hb2); (try clear hk); (try clear hi); (try clear ho0); obtain ⟨hz_, hz_, hz_, hz_, hz_, hz_, hz_, hz_, hz_, hz_⟩ := cs5_ BK318.out) | ((with_reducible refine gate_callee (f := 17) rfl ?_); refine goesL_ (some 23) rfl rfl Try.func17 (by kernel_rfl) rfl #[.agg #[.bool a0_0, .slice A0_1 l0_1.length c0_1, .slice A0_2 l0_2.length c0_2, .slice A0_3 l0_3.length c0_3, .slice A0_4 l0_4.length c0_4]] rfl z0_ ?_; (with_reducible refine (laws_toTree.calls k a0_0 _ _ l0_1 _ _ l0_2 _ _ l0_3 _ _ l0_4 t336 t337 t340 t343 t346 _ ?side1 ?side2 ?side3 ?side4 ?side5 ?side6 ?side7 ?side8 A11.out).mono ?_); (case side1 => exact z75_); (case side2 => exact z95_); (case side3 => exact z78_); (case side4 => exact HC0_2.out); (case side5 => exact z79_); (case side6 => exact HC0_3.out); (case side7 => exact z77_); (case side8 => exact HC0_4.out); rintro e w23 ⟨v338, v341, v344, v347, rfl, ho0, ho1, ho2, ho3, hb⟩; refine ⟨_, rfl, ?_⟩; have HO339 := q_ (Kd.R_lower (Kd.R_new' ho0 (Kd.R_lt z21_)) (below_size cb_)); have HO342 := q_ (Kd.R_lower (Kd.R_new' ho1 (Kd.R_lt z22_)) (below_size cb_)); have HO345 := q_ (Kd.R_lower (Kd.R_new' (Kd.R_new' (Kd.R_new' (Kd.R_new' (Kd.R_new' ho2 (Kd.R_lt z21_)) (Kd.R_lt z22_)) (Kd.R_lt z25_)) (Kd.R_lt z19_)) (Kd.R_lt z23_)) (below_size cb_)); replace HO323 := q_ (Kd.R_elder' z21_ (Kd.R_base ho0) hb); replace HO326 := q_ (Kd.R_elder' z22_ (Kd.R_base ho1) hb); replace HO329 := q_ (Kd.R_mono (Kd.R_told (Kd.R_told (Kd.R_told (Kd.R_told (Kd.R_old z25_ hb) (Kd.R_base ho0)) (Kd.R_base ho1)) (Kd.R_base ho2)) (Kd.R_base ho3)) (fun _ h_ => h_.1)); have HO348 := q_ (Kd.R_lower (Kd.R_new' (Kd.R_new' ho3 (Kd.R_lt z19_)) (Kd.R_lt z23_)) (below_size cb_)); replace HO332 := q_ (Kd.R_elder' z19_ (Kd.R_base ho3) hb); replace HO335 := q_ (Kd.R_elder' z23_ (Kd.R_base ho3) hb); replace BK318 := rb_ BK318 hb; replace HB := hb_ hb; (try clear hb); (try clear hb2); (try clear hk); (try clear hi); (try clear ho0); (try clear ho1); (try clear ho2); (try clear ho3)) | ((with_reducible refine gate_dst (N := 7) rfl ?_); refine box_event ?hg (N := 7) ?hd (cs := #[.bool false, .slice none 0 0, .slice none 0 0, .slice none 0 0, .slice none 0 0]) (t := 34) ?hr ?_; (case hd => rfl); (case hg => rfl); (case hr => exact z76_); intro gb349 hg w24 hbox hb; replace HO323 := q_ (Kd.R_below z21_ hb); replace HO326 := q_ (Kd.R_below z22_ hb); replace HO329 := q_ (Kd.R_below (Kd.R_elderB z25_ gb349 (Nat.le_of_eq hg.symm)) hb); replace HO332 := q_ (Kd.R_below z19_ hb); replace HO335 := q_ (Kd.R_below z23_ hb); replace HO339 := q_ (Kd.R_below z30_ hb); replace HO342 := q_ (Kd.R_below z31_ hb); replace HO345 := q_ (Kd.R_below (Kd.R_elderB z43_ gb349 (Nat.le_of_eq hg.symm)) hb); replace HO348 := q_ (Kd.R_below z32_ hb); have BK349 := q_ (hbox); have GW349 := ge_ hg; have GE349 := ge_ hg; replace HB := hb_ hb; have NB318_349 := nl_ hg BK318; have NB349_318 := nr_ hg BK318; replace BK318 := rb_ BK318 hb; clear hb hbox hg; have hnb25 := NB349_318.out; have hnc25 := NB318_349.out; obtain ⟨hz_, hz_, hz_, hz_, hz_, hz_, hz_, hz_, hz_, hz_⟩ := cs5_ BK349.out; obtain ⟨Ao27, co27, eo27⟩ := Kd.R_slice HO339.out; subst eo27; obtain ⟨Ao28, co28, eo28⟩ := Kd.R_slice HO342.out; subst eo28; obtain ⟨Ao29, co29, eo29⟩ := Kd.R_slice HO345.out; subst eo29; obtain ⟨Ao30, co30, eo30⟩ := Kd.R_slice HO348.out; subst eo30) | ((with_reducible refine gate_callee (f := 27) rfl ?_); refine goesL_ (some 26) rfl rfl Try.func27 (by kernel_rfl) rfl #[.agg #[.bool t336, .slice Ao27 t337.length co27, .slice Ao28 t340.length co28, .slice Ao29 t343.length co29, .slice Ao30 t346.length co30], .int .i64 a1] rfl z0_ ?_; (with_reducible refine (impl_Pending.calls k t336 _ _ t337 _ _ t340 _ _ t343 _ _ t346 a1 t350 _ ?side1 ?side2 ?side3 ?side4 ?side5 ?side6 ?side7 ?side8 A12.out).mono ?_); (case side1 => refine (Kd.R_reads' (e := 92) (base := w.heap.size) (ok := fun k_ => (True ∧ some k_ ≠ (.slice Ao17 t321.length co17 : Value).ownBlock)) (n := t337.length) (c := co27) ?_).2.2; exact (by (with_reducible repeat (first | apply Kd.R_alloc | apply Kd.R_drewN | apply Kd.R_drew)); exact (Kd.R_mono (Kd.R_far (p := ⟨gb349, 4, none⟩) (Kd.R_far (p := ⟨gb349, 3, none⟩) (Kd.R_far (p := ⟨gb349, 2, none⟩) (Kd.R_far (p := ⟨gb349, 1, none⟩) (Kd.R_far (p := ⟨gb349, 0, none⟩) (Kd.R_types HO339.out BK349.out (by decide)) (fun _ hk => hk.2) (.bool t336)) (fun _ hk => hk.2) (.slice Ao27 t337.length co27)) (fun _ hk => hk.2) (.slice Ao28 t340.length co28)) (fun _ hk => hk.2) (.slice Ao29 t343.length co29)) (fun _ hk => hk.2) (.slice Ao30 t346.length co30)) (fun _ h_ => h_.1)))); (case side2 => exact (Kd.R_reads' HO339.out).2.1); (case side3 => refine (Kd.R_reads' (e := 3) (base := w.heap.size) (ok := fun k_ => (True ∧ some k_ ≠ (.slice Ao18 t324.length co18 : Value).ownBlock)) (n := t340.length) (c := co28) ?_).2.2; exact (by (with_reducible repeat (first | apply Kd.R_alloc | apply Kd.R_drewN | apply Kd.R_drew)); exact (Kd.R_mono (Kd.R_far (p := ⟨gb349, 4, none⟩) (Kd.R_far (p := ⟨gb349, 3, none⟩) (Kd.R_far (p := ⟨gb349, 2, none⟩) (Kd.R_far (p := ⟨gb349, 1, none⟩) (Kd.R_far (p := ⟨gb349, 0, none⟩) (Kd.R_types HO342.out BK349.out (by decide)) (fun _ hk => hk.2) (.bool t336)) (fun _ hk => hk.2) (.slice Ao27 t337.length co27)) (fun _ hk => hk.2) (.slice Ao28 t340.length co28)) (fun _ hk => hk.2) (.slice Ao29 t343.length co29)) (fun _ hk => hk.2) (.slice Ao30 t346.length co30)) (fun _ h_ => h_.1)))); (case side4 => exact (Kd.R_reads' HO342.out).2.1); (case side5 => refine (Kd.R_reads' (e := 34) (base := w.heap.size) (ok := fun k_ => (((((((some k_ ≠ (.slice Ao27 t337.length co27 : Value).ownBlock ∧ (some k_ ≠ (.slice Ao28 t340.length co28 : Value).ownBlock ∧ some k_ ≠ (.slice Ao30 t346.length co30 : Value).ownBlock)) ∧ some k_ ≠ (.slice Ao17 t321.length co17 : Value).ownBlock) ∧ some k_ ≠ (.slice Ao18 t324.length co18 : Value).ownBlock) ∧ some k_ ≠ (.slice Ao19 t327.length co19 : Value).ownBlock) ∧ some k_ ≠ (.slice Ao20 t330.length co20 : Value).ownBlock) ∧ some k_ ≠ (v334 : Value).ownBlock) ∧ k_ ≠ gb349)) (n := t343.length) (c := co29) ?_).2.2; exact z20_); (case side6 => exact (Kd.R_reads' HO345.out).2.1); (case side7 => refine (Kd.R_reads' (e := 72) (base := w.heap.size) (ok := fun k_ => ((True ∧ some k_ ≠ (.slice Ao20 t330.length co20 : Value).ownBlock) ∧ some k_ ≠ (v334 : Value).ownBlock)) (n := t346.length) (c := co30) ?_).2.2; exact (by (with_reducible repeat (first | apply Kd.R_alloc | apply Kd.R_drewN | apply Kd.R_drew)); exact (Kd.R_mono (Kd.R_far (p := ⟨gb349, 4, none⟩) (Kd.R_far (p := ⟨gb349, 3, none⟩) (Kd.R_far (p := ⟨gb349, 2, none⟩) (Kd.R_far (p := ⟨gb349, 1, none⟩) (Kd.R_far (p := ⟨gb349, 0, none⟩) (Kd.R_types HO348.out BK349.out (by decide)) (fun _ hk => hk.2) (.bool t336)) (fun _ hk => hk.2) (.slice Ao27 t337.length co27)) (fun _ hk => hk.2) (.slice Ao28 t340.length co28)) (fun _ hk => hk.2) (.slice Ao29 t343.length co29)) (fun _ hk => hk.2) (.slice Ao30 t346.length co30)) (fun _ h_ => h_.1)))); (case side8 => exact (Kd.R_reads' HO348.out).2.1); rintro e w31 ⟨v351, rfl, ho0, hb⟩; refine ⟨_, rfl, ?_⟩; replace HO323 := q_ (Kd.R_below (by (with_reducible repeat (first | apply Kd.R_alloc | apply Kd.R_drewN | apply Kd.R_drew)); exact (Kd.R_mono (Kd.R_far (p := ⟨gb349, 4, none⟩) (Kd.R_far (p := ⟨gb349, 3, none⟩) (Kd.R_far (p := ⟨gb349, 2, none⟩) (Kd.R_far (p := ⟨gb349, 1, none⟩) (Kd.R_far (p := ⟨gb349, 0, none⟩) (Kd.R_types HO323.out BK349.out (by decide)) (fun _ hk => hk.2) (.bool t336)) (fun _ hk => hk.2) (.slice Ao27 t337.length co27)) (fun _ hk => hk.2) (.slice Ao28 t340.length co28)) (fun _ hk => hk.2) (.slice Ao29 t343.length co29)) (fun _ hk => hk.2) (.slice Ao30 t346.length co30)) (fun _ h_ => h_.1))) hb); replace HO326 := q_ (Kd.R_below (by (with_reducible repeat (first | apply Kd.R_alloc | apply Kd.R_drewN | apply Kd.R_drew)); exact (Kd.R_mono (Kd.R_far (p := ⟨gb349, 4, none⟩) (Kd.R_far (p := ⟨gb349, 3, none⟩) (Kd.R_far (p := ⟨gb349, 2, none⟩) (Kd.R_far (p := ⟨gb349, 1, none⟩) (Kd.R_far (p := ⟨gb349, 0, none⟩) (Kd.R_types HO326.out BK349.out (by decide)) (fun _ hk => hk.2) (.bool t336)) (fun _ hk => hk.2) (.slice Ao27 t337.length co27)) (fun _ hk => hk.2) (.slice Ao28 t340.length co28)) (fun _ hk => hk.2) (.slice Ao29 t343.length co29)) (fun _ hk => hk.2) (.slice Ao30 t346.length co30)) (fun _ h_ => h_.1))) hb); replace HO329 := q_ (Kd.R_elder' (by (with_reducible repeat (first | apply Kd.R_alloc | apply Kd.R_drewN | apply Kd.R_drew)); exact (Kd.R_mono (Kd.R_far (p := ⟨gb349, 4, none⟩) (Kd.R_far (p := ⟨gb349, 3, none⟩) (Kd.R_far (p := ⟨gb349, 2, none⟩) (Kd.R_far (p := ⟨gb349, 1, none⟩) (Kd.R_far (p := ⟨gb349, 0, none⟩) (Kd.R_mono HO329.out (fun k_ hk => (⟨hk, hk.2⟩ : _ ∧ k_ ≠ gb349))) (fun _ hk => hk.2) (.bool t336)) (fun _ hk => hk.2) (.slice Ao27 t337.length co27)) (fun _ hk => hk.2) (.slice Ao28 t340.length co28)) (fun _ hk => hk.2) (.slice Ao29 t343.length co29)) (fun _ hk => hk.2) (.slice Ao30 t346.length co30)) (fun _ h_ => h_.1))) (Kd.R_base ho0) hb); replace HO339 := q_ (Kd.R_below (by (with_reducible repeat (first | apply Kd.R_alloc | apply Kd.R_drewN | apply Kd.R_drew)); exact (Kd.R_mono (Kd.R_far (p := ⟨gb349, 4, none⟩) (Kd.R_far (p := ⟨gb349, 3, none⟩) (Kd.R_far (p := ⟨gb349, 2, none⟩) (Kd.R_far (p := ⟨gb349, 1, none⟩) (Kd.R_far (p := ⟨gb349, 0, none⟩) (Kd.R_types HO339.out BK349.out (by decide)) (fun _ hk => hk.2) (.bool t336)) (fun _ hk => hk.2) (.slice Ao27 t337.length co27)) (fun _ hk => hk.2) (.slice Ao28 t340.length co28)) (fun _ hk => hk.2) (.slice Ao29 t343.length co29)) (fun _ hk => hk.2) (.slice Ao30 t346.length co30)) (fun _ h_ => h_.1))) hb); replace HO342 := q_ (Kd.R_below (by (with_reducible repeat (first | apply Kd.R_alloc | apply Kd.R_drewN | apply Kd.R_drew)); exact (Kd.R_mono (Kd.R_far (p := ⟨gb349, 4, none⟩) (Kd.R_far (p := ⟨gb349, 3, none⟩) (Kd.R_far (p := ⟨gb349, 2, none⟩) (Kd.R_far (p := ⟨gb349, 1, none⟩) (Kd.R_far (p := ⟨gb349, 0, none⟩) (Kd.R_types HO342.out BK349.out (by decide)) (fun _ hk => hk.2) (.bool t336)) (fun _ hk => hk.2) (.slice Ao27 t337.length co27)) (fun _ hk => hk.2) (.slice Ao28 t340.length co28)) (fun _ hk => hk.2) (.slice Ao29 t343.length co29)) (fun _ hk => hk.2) (.slice Ao30 t346.length co30)) (fun _ h_ => h_.1))) hb); replace HO345 := q_ (Kd.R_elder' z20_ (Kd.R_base ho0) hb); have HO352 := q_ (Kd.R_lower (Kd.R_new' (Kd.R_new' (Kd.R_new' ho0 (Kd.R_lt (by (with_reducible repeat (first | apply Kd.R_alloc | apply Kd.R_drewN | apply Kd.R_drew)); exact (Kd.R_mono (Kd.R_far (p := ⟨gb349, 4, none⟩) (Kd.R_far (p := ⟨gb349, 3, none⟩) (Kd.R_far (p := ⟨gb349, 2, none⟩) (Kd.R_far (p := ⟨gb349, 1, none⟩) (Kd.R_far (p := ⟨gb349, 0, none⟩) (Kd.R_types HO332.out BK349.out (by decide)) (fun _ hk => hk.2) (.bool t336)) (fun _ hk => hk.2) (.slice Ao27 t337.length co27)) (fun _ hk => hk.2) (.slice Ao28 t340.length co28)) (fun _ hk => hk.2) (.slice Ao29 t343.length co29)) (fun _ hk => hk.2) (.slice Ao30 t346.length co30)) (fun _ h_ => h_.1))))) (Kd.R_lt (by (with_reducible repeat (first | apply Kd.R_alloc | apply Kd.R_drewN | apply Kd.R_drew)); exact (Kd.R_mono (Kd.R_far (p := ⟨gb349, 4, none⟩) (Kd.R_far (p := ⟨gb349, 3, none⟩) (Kd.R_far (p := ⟨gb349, 2, none⟩) (Kd.R_far (p := ⟨gb349, 1, none⟩) (Kd.R_far (p := ⟨gb349, 0, none⟩) (Kd.R_types HO335.out BK349.out (by decide)) (fun _ hk => hk.2) (.bool t336)) (fun _ hk => hk.2) (.slice Ao27 t337.length co27)) (fun _ hk => hk.2) (.slice Ao28 t340.length co28)) (fun _ hk => hk.2) (.slice Ao29 t343.length co29)) (fun _ hk => hk.2) (.slice Ao30 t346.length co30)) (fun _ h_ => h_.1))))) (Kd.R_lt (by (with_reducible repeat (first | apply Kd.R_alloc | apply Kd.R_drewN | apply Kd.R_drew)); exact (Kd.R_mono (Kd.R_far (p := ⟨gb349, 4, none⟩) (Kd.R_far (p := ⟨gb349, 3, none⟩) (Kd.R_far (p := ⟨gb349, 2, none⟩) (Kd.R_far (p := ⟨gb349, 1, none⟩) (Kd.R_far (p := ⟨gb349, 0, none⟩) (Kd.R_types HO348.out BK349.out (by decide)) (fun _ hk => hk.2) (.bool t336)) (fun _ hk => hk.2) (.slice Ao27 t337.length co27)) (fun _ hk => hk.2) (.slice Ao28 t340.length co28)) (fun _ hk => hk.2) (.slice Ao29 t343.length co29)) (fun _ hk => hk.2) (.slice Ao30 t346.length co30)) (fun _ h_ => h_.1))))) (below_size cb_)); replace HO332 := q_ (Kd.R_elder' (by (with_reducible repeat (first | apply Kd.R_alloc | apply Kd.R_drewN | apply Kd.R_drew)); exact (Kd.R_mono (Kd.R_far (p := ⟨gb349, 4, none⟩) (Kd.R_far (p := ⟨gb349, 3, none⟩) (Kd.R_far (p := ⟨gb349, 2, none⟩) (Kd.R_far (p := ⟨gb349, 1, none⟩) (Kd.R_far (p := ⟨gb349, 0, none⟩) (Kd.R_types HO332.out BK349.out (by decide)) (fun _ hk => hk.2) (.bool t336)) (fun _ hk => hk.2) (.slice Ao27 t337.length co27)) (fun _ hk => hk.2) (.slice Ao28 t340.length co28)) (fun _ hk => hk.2) (.slice Ao29 t343.length co29)) (fun _ hk => hk.2) (.slice Ao30 t346.length co30)) (fun _ h_ => h_.1))) (Kd.R_base ho0) hb); replace HO335 := q_ (Kd.R_elder' (by (with_reducible repeat (first | apply Kd.R_alloc | apply Kd.R_drewN | apply Kd.R_drew)); exact (Kd.R_mono (Kd.R_far (p := ⟨gb349, 4, none⟩) (Kd.R_far (p := ⟨gb349, 3, none⟩) (Kd.R_far (p := ⟨gb349, 2, none⟩) (Kd.R_far (p := ⟨gb349, 1, none⟩) (Kd.R_far (p := ⟨gb349, 0, none⟩) (Kd.R_types HO335.out BK349.out (by decide)) (fun _ hk => hk.2) (.bool t336)) (fun _ hk => hk.2) (.slice Ao27 t337.length co27)) (fun _ hk => hk.2) (.slice Ao28 t340.length co28)) (fun _ hk => hk.2) (.slice Ao29 t343.length co29)) (fun _ hk => hk.2) (.slice Ao30 t346.length co30)) (fun _ h_ => h_.1))) (Kd.R_base ho0) hb); replace HO348 := q_ (Kd.R_elder' (by (with_reducible repeat (first | apply Kd.R_alloc | apply Kd.R_drewN | apply Kd.R_drew)); exact (Kd.R_mono (Kd.R_far (p := ⟨gb349, 4, none⟩) (Kd.R_far (p := ⟨gb349, 3, none⟩) (Kd.R_far (p := ⟨gb349, 2, none⟩) (Kd.R_far (p := ⟨gb349, 1, none⟩) (Kd.R_far (p := ⟨gb349, 0, none⟩) (Kd.R_types HO348.out BK349.out (by decide)) (fun _ hk => hk.2) (.bool t336)) (fun _ hk => hk.2) (.slice Ao27 t337.length co27)) (fun _ hk => hk.2) (.slice Ao28 t340.length co28)) (fun _ hk => hk.2) (.slice Ao29 t343.length co29)) (fun _ hk => hk.2) (.slice Ao30 t346.length co30)) (fun _ h_ => h_.1))) (Kd.R_base ho0) hb); replace BK318 := q_ (blk_below (g := gb318) (o := .cells #[.bool a0_0, .slice A0_1 l0_1.length c0_1, .slice A0_2 l0_2.length c0_2, .slice A0_3 l0_3.length c0_3, .slice A0_4 l0_4.length c0_4] 27 (0, 0)) (by (with_reducible repeat (first | refine blk_drewN ?_ _ | refine blk_drew ?_ | refine blk_alloc ?_ _)); refine blk_far ?_ NB318_349.out _; (with_reducible repeat (first | refine blk_drewN ?_ _ | refine blk_drew ?_ | refine blk_alloc ?_ _)); refine blk_far ?_ NB318_349.out _; (with_reducible repeat (first | refine blk_drewN ?_ _ | refine blk_drew ?_ | refine blk_alloc ?_ _)); refine blk_far ?_ NB318_349.out _; (with_reducible repeat (first | refine blk_drewN ?_ _ | refine blk_drew ?_ | refine blk_alloc ?_ _)); refine blk_far ?_ NB318_349.out _; (with_reducible repeat (first | refine blk_drewN ?_ _ | refine blk_drew ?_ | refine blk_alloc ?_ _)); refine blk_far ?_ NB318_349.out _; (with_reducible repeat (first | refine blk_drewN ?_ _ | refine blk_drew ?_ | refine blk_alloc ?_ _)); exact BK318.out) hb); replace BK349 := q_ (blk_below (g := gb349) (o := .cells #[.bool t336, .slice Ao27 t337.length co27, .slice Ao28 t340.length co28, .slice Ao29 t343.length co29, .slice Ao30 t346.length co30] 34 (0, 0)) (by (with_reducible repeat (first | refine blk_drewN ?_ _ | refine blk_drew ?_ | refine blk_alloc ?_ _)); refine blk_put (cs := #[.bool t336, .slice Ao27 t337.length co27, .slice Ao28 t340.length co28, .slice Ao29 t343.length co29, .slice none 0 0]) ?_ 4 _ rfl; (with_reducible repeat (first | refine blk_drewN ?_ _ | refine blk_drew ?_ | refine blk_alloc ?_ _)); refine blk_put (cs := #[.bool t336, .slice Ao27 t337.length co27, .slice Ao28 t340.length co28, .slice none 0 0, .slice none 0 0]) ?_ 3 _ rfl; (with_reducible repeat (first | refine blk_drewN ?_ _ | refine blk_drew ?_ | refine blk_alloc ?_ _)); refine blk_put (cs := #[.bool t336, .slice Ao27 t337.length co27, .slice none 0 0, .slice none 0 0, .slice none 0 0]) ?_ 2 _ rfl; (with_reducible repeat (first | refine blk_drewN ?_ _ | refine blk_drew ?_ | refine blk_alloc ?_ _)); refine blk_put (cs := #[.bool t336, .slice none 0 0, .slice none 0 0, .slice none 0 0, .slice none 0 0]) ?_ 1 _ rfl; (with_reducible repeat (first | refine blk_drewN ?_ _ | refine blk_drew ?_ | refine blk_alloc ?_ _)); refine blk_put (cs := #[.bool false, .slice none 0 0, .slice none 0 0, .slice none 0 0, .slice none 0 0]) ?_ 0 _ rfl; (with_reducible repeat (first | refine blk_drewN ?_ _ | refine blk_drew ?_ | refine blk_alloc ?_ _)); exact BK349.out) hb); replace HB := hb_ hb; (try clear hb); (try clear hb2); (try clear hk); (try clear hi); (try clear ho0); obtain ⟨Ao32, co32, eo32⟩ := Kd.R_slice HO352.out; subst eo32; obtain ⟨Ao33, co33, eo33⟩ := Kd.R_slice HO335.out; subst eo33) | ((with_reducible refine gate_callee (f := 28) rfl ?_); refine goesL_ (some 29) rfl rfl Try.func28 (by kernel_rfl) rfl #[.slice Ao32 t350.length co32, .slice Ao33 t333.length co33] rfl z0_ ?_; (with_reducible refine (laws_eqMsgS.calls k _ _ t350 _ _ t333 t353 _ ?side1 ?side2 ?side3 ?side4 A13.out).mono ?_); (case side1 => exact z96_); (case side2 => exact (Kd.R_reads' HO352.out).2.1); (case side3 => exact z97_); (case side4 => exact (Kd.R_reads' HO335.out).2.1); rintro e w34 ⟨rfl, hb⟩; refine ⟨_, rfl, ?_⟩; replace HO323 := q_ (Kd.R_below z21_ hb); replace HO326 := q_ (Kd.R_below z22_ hb); replace HO329 := q_ (Kd.R_below z25_ hb); replace HO332 := q_ (Kd.R_below z19_ hb); replace HO335 := q_ (Kd.R_below z23_ hb); replace HO339 := q_ (Kd.R_below z30_ hb); replace HO342 := q_ (Kd.R_below z31_ hb); replace HO345 := q_ (Kd.R_below z43_ hb); replace HO348 := q_ (Kd.R_below z32_ hb); replace HO352 := q_ (Kd.R_below z33_ hb); replace BK318 := rb_ BK318 hb; replace BK349 := rb_ BK349 hb; replace HB := hb_ hb; (try clear hb); (try clear hb2); (try clear hk); (try clear hi)))
  (try simp only [Act.put, List.setIfInBounds_toArray, List.set_cons_zero, List.set_cons_succ])
  have H := HC14.out
  clear HC14
  replace H := kb_ H; rcases H with ⟨rfl, H⟩ | ⟨rfl, H⟩
  ·replace H := bi_ H; obtain ⟨⟨t354, t355, t358, t361, t364⟩, A36, H⟩ := H
   (try dsimp only at H)
   replace H := bi_ H; obtain ⟨t367, A37, H⟩ := H
   have HC38 := q_ H
   clear H
   try go_wp2
   replace HO323 := q_ (Kd.R_drew HO323.out)
   replace HO326 := q_ (Kd.R_drew HO326.out)
   replace HO329 := q_ (Kd.R_drew HO329.out)
   replace HO332 := q_ (Kd.R_drew HO332.out)
   replace HO335 := q_ (Kd.R_drew HO335.out)
   replace HO339 := q_ (Kd.R_drew HO339.out)
   replace HO342 := q_ (Kd.R_drew HO342.out)
   replace HO345 := q_ (Kd.R_drew HO345.out)
   replace HO348 := q_ (Kd.R_drew HO348.out)
   replace HO352 := q_ (Kd.R_drew HO352.out)
   replace BK318 := q_ (blk_drew BK318.out)
   replace BK349 := q_ (blk_drew BK349.out)
   replace HB := q_ (below_drew1 HB.out)
   refine start_ (n := 5) (S := fun w' => w'.cell? ⟨gb349, 0, none⟩ = some (.bool t336) ∧ w'.cell? ⟨gb349, 1, none⟩ = some (.slice Ao27 t337.length co27) ∧ w'.cell? ⟨gb349, 2, none⟩ = some (.slice Ao28 t340.length co28) ∧ w'.cell? ⟨gb349, 3, none⟩ = some (.slice Ao29 t343.length co29) ∧ w'.cell? ⟨gb349, 4, none⟩ = some (.slice Ao30 t346.length co30) ∧ w'.cell? ⟨gb318, 0, none⟩ = some (.bool a0_0) ∧ w'.cell? ⟨gb318, 1, none⟩ = some (.slice A0_1 l0_1.length c0_1) ∧ w'.cell? ⟨gb318, 2, none⟩ = some (.slice A0_2 l0_2.length c0_2) ∧ w'.cell? ⟨gb318, 3, none⟩ = some (.slice A0_3 l0_3.length c0_3) ∧ w'.cell? ⟨gb318, 4, none⟩ = some (.slice A0_4 l0_4.length c0_4)) (ds := []) (tf 0 5) (by kernel_rfl) rfl rfl ⟨(blk_cell BK349.out 0).trans rfl, (blk_cell BK349.out 1).trans rfl, (blk_cell BK349.out 2).trans rfl, (blk_cell BK349.out 3).trans rfl, (blk_cell BK349.out 4).trans rfl, (blk_cell BK318.out 0).trans rfl, (blk_cell BK318.out 1).trans rfl, (blk_cell BK318.out 2).trans rfl, (blk_cell BK318.out 3).trans rfl, (blk_cell BK318.out 4).trans rfl⟩ (fun hHeld => ?_)
   generalize w34.drew = w39 at HO323 HO326 HO329 HO332 HO335 HO339 HO342 HO345 HO348 HO352 BK318 BK349 HB hHeld ⊢
   refine take_ (i := 0) (N := some 31) (v := ?_) (a' := ?_) (tf 1 4) rfl rfl (by kernel_rfl) (fun _ _ _ h => h) (Or.inl ⟨by rfl, ?_⟩) hHeld ?_ ?_
   rotate_left
   ·rintro w' ⟨s0, s1, s2, s3, s4, s5, s6, s7, s8, s9⟩
    go_simp
    with_reducible rfl
   rotate_left
   ·simp only [Act.put, List.setIfInBounds_toArray, List.set_cons_zero, List.set_cons_succ, i64_w, i32_w]
    rfl
   refine take_ (i := 1) (N := some 32) (v := ?_) (a' := ?_) (tf 2 3) rfl rfl (by kernel_rfl) (fun _ _ _ h => h) (Or.inl ⟨by rfl, ?_⟩) hHeld ?_ ?_
   rotate_left
   ·rintro w' ⟨s0, s1, s2, s3, s4, s5, s6, s7, s8, s9⟩
    go_simp
    with_reducible rfl
   rotate_left
   ·simp only [Act.put, List.setIfInBounds_toArray, List.set_cons_zero, List.set_cons_succ, i64_w, i32_w]
    rfl
   refine one_ (i := 2) (N := some 33) (tf 3 2) rfl rfl (by kernel_rfl) (by decide) (fun K hK => ?_)
   refine goes_ Try.func17 (by kernel_rfl) rfl #[.agg #[.bool a0_0, .slice A0_1 l0_1.length c0_1, .slice A0_2 l0_2.length c0_2, .slice A0_3 l0_3.length c0_3, .slice A0_4 l0_4.length c0_4]] (by rfl) rfl rfl z0_ ?_
   with_reducible refine (laws_toTree.calls k a0_0 _ _ l0_1 _ _ l0_2 _ _ l0_3 _ _ l0_4 t354 t355 t358 t361 t364 _ ?side1 ?side2 ?side3 ?side4 ?side5 ?side6 ?side7 ?side8 A36.out).mono ?_
   (case side1 => exact z75_)
   (case side2 => exact z95_)
   (case side3 => exact z78_)
   (case side4 => exact HC0_2.out)
   (case side5 => exact z79_)
   (case side6 => exact HC0_3.out)
   (case side7 => exact z77_)
   (case side8 => exact HC0_4.out)
   rintro e w40 ⟨v356, v359, v362, v365, rfl, ho0, ho1, ho2, ho3, hb⟩
   refine ⟨_, rfl, ?_⟩
   have HO357 := q_ (Kd.R_lower (Kd.R_new' (Kd.R_new' ho0 (Kd.R_lt z21_)) (Kd.R_lt z30_)) (below_size cb_))
   have HO360 := q_ (Kd.R_lower (Kd.R_new' (Kd.R_new' ho1 (Kd.R_lt z22_)) (Kd.R_lt z31_)) (below_size cb_))
   have HO363 := q_ (Kd.R_lower (Kd.R_newB (Kd.R_new' (Kd.R_new' (Kd.R_new' (Kd.R_new' (Kd.R_new' (Kd.R_new' (Kd.R_new' (Kd.R_new' (Kd.R_new' (Kd.R_new' ho2 (Kd.R_lt z21_)) (Kd.R_lt z22_)) (Kd.R_lt z25_)) (Kd.R_lt z19_)) (Kd.R_lt z23_)) (Kd.R_lt z30_)) (Kd.R_lt z31_)) (Kd.R_lt z43_)) (Kd.R_lt z32_)) (Kd.R_lt z33_)) (g := gb349) (o := .cells #[.bool t336, .slice Ao27 t337.length co27, .slice Ao28 t340.length co28, .slice Ao29 t343.length co29, .slice Ao30 t346.length co30] 34 (0, 0)) z61_) (below_size cb_))
   replace HO323 := q_ (Kd.R_elder' z21_ (Kd.R_base ho0) hb)
   replace HO326 := q_ (Kd.R_elder' z22_ (Kd.R_base ho1) hb)
   replace HO329 := q_ (Kd.R_mono (Kd.R_told (Kd.R_told (Kd.R_told (Kd.R_told (Kd.R_old z25_ hb) (Kd.R_base ho0)) (Kd.R_base ho1)) (Kd.R_base ho2)) (Kd.R_base ho3)) (fun _ h_ => h_.1))
   replace HO339 := q_ (Kd.R_elder' z30_ (Kd.R_base ho0) hb)
   replace HO342 := q_ (Kd.R_elder' z31_ (Kd.R_base ho1) hb)
   replace HO345 := q_ (Kd.R_mono (Kd.R_told (Kd.R_told (Kd.R_told (Kd.R_told (Kd.R_old z43_ hb) (Kd.R_base ho0)) (Kd.R_base ho1)) (Kd.R_base ho2)) (Kd.R_base ho3)) (fun _ h_ => h_.1))
   have HO366 := q_ (Kd.R_lower (Kd.R_new' (Kd.R_new' (Kd.R_new' (Kd.R_new' ho3 (Kd.R_lt z19_)) (Kd.R_lt z23_)) (Kd.R_lt z32_)) (Kd.R_lt z33_)) (below_size cb_))
   replace HO332 := q_ (Kd.R_elder' z19_ (Kd.R_base ho3) hb)
   replace HO335 := q_ (Kd.R_elder' z23_ (Kd.R_base ho3) hb)
   replace HO348 := q_ (Kd.R_elder' z32_ (Kd.R_base ho3) hb)
   replace HO352 := q_ (Kd.R_elder' z33_ (Kd.R_base ho3) hb)
   replace BK318 := rb_ BK318 hb
   replace BK349 := rb_ BK349 hb
   replace HB := hb_ hb
   (try clear hb)
   (try clear hb2)
   (try clear hk)
   (try clear hi)
   (try clear ho0)
   (try clear ho1)
   (try clear ho2)
   (try clear ho3)
   obtain ⟨Ao41, co41, eo41⟩ := Kd.R_slice HO357.out
   (first | subst eo41 | (injection eo41 with f1_ f2_ f3_; have f4_ := f1_.symm; have f5_ := f3_.symm; clear f1_ f2_ f3_; subst f4_; subst f5_))
   obtain ⟨Ao42, co42, eo42⟩ := Kd.R_slice HO360.out
   (first | subst eo42 | (injection eo42 with f1_ f2_ f3_; have f4_ := f1_.symm; have f5_ := f3_.symm; clear f1_ f2_ f3_; subst f4_; subst f5_))
   obtain ⟨Ao43, co43, eo43⟩ := Kd.R_slice HO363.out
   (first | subst eo43 | (injection eo43 with f1_ f2_ f3_; have f4_ := f1_.symm; have f5_ := f3_.symm; clear f1_ f2_ f3_; subst f4_; subst f5_))
   obtain ⟨Ao44, co44, eo44⟩ := Kd.R_slice HO366.out
   (first | subst eo44 | (injection eo44 with f1_ f2_ f3_; have f4_ := f1_.symm; have f5_ := f3_.symm; clear f1_ f2_ f3_; subst f4_; subst f5_))
   refine hK.out _ _ ⟨(blk_cell BK349.out 0).trans rfl, (blk_cell BK349.out 1).trans rfl, (blk_cell BK349.out 2).trans rfl, (blk_cell BK349.out 3).trans rfl, (blk_cell BK349.out 4).trans rfl, (blk_cell BK318.out 0).trans rfl, (blk_cell BK318.out 1).trans rfl, (blk_cell BK318.out 2).trans rfl, (blk_cell BK318.out 3).trans rfl, (blk_cell BK318.out 4).trans rfl⟩ (fun hHeld => ?_)
   clear hK K
   refine norm_ (a' := ?_) ?_ ?_
   rotate_left
   ·show Act.put _ (some 33) _ = _
    simp only [Act.put, List.setIfInBounds_toArray, List.set_cons_zero, List.set_cons_succ, i64_w, i32_w]
    rfl
   refine one_ (i := 3) (N := some 34) (tf 4 1) rfl rfl (by kernel_rfl) (by decide) (fun K hK => ?_)
   refine goes_ Try.func19 (by kernel_rfl) rfl #[.agg #[.bool t336, .slice Ao27 t337.length co27, .slice Ao28 t340.length co28, .slice Ao29 t343.length co29, .slice Ao30 t346.length co30], .agg #[.bool t354, .slice Ao41 t355.length co41, .slice Ao42 t358.length co42, .slice Ao43 t361.length co43, .slice Ao44 t364.length co44]] (by rfl) rfl rfl z0_ ?_
   with_reducible refine (laws_eqTree.calls k t336 _ _ t337 _ _ t340 _ _ t343 _ _ t346 t354 _ _ t355 _ _ t358 _ _ t361 _ _ t364 t367 _ ?side1 ?side2 ?side3 ?side4 ?side5 ?side6 ?side7 ?side8 ?side9 ?side10 ?side11 ?side12 ?side13 ?side14 ?side15 ?side16 A37.out).mono ?_
   (case side1 => repeat (first | exact (Kd.R_reads' HO339.out).2.2 | (with_reducible refine Kd.C_alloc ?_ _) | (with_reducible refine Kd.C_drewN ?_ _) | (with_reducible refine Kd.C_drew ?_)))
   (case side2 => exact (Kd.R_reads' HO339.out).2.1)
   (case side3 => repeat (first | exact (Kd.R_reads' HO342.out).2.2 | (with_reducible refine Kd.C_alloc ?_ _) | (with_reducible refine Kd.C_drewN ?_ _) | (with_reducible refine Kd.C_drew ?_)))
   (case side4 => exact (Kd.R_reads' HO342.out).2.1)
   (case side5 => repeat (first | exact (Kd.R_reads' HO345.out).2.2 | (with_reducible refine Kd.C_alloc ?_ _) | (with_reducible refine Kd.C_drewN ?_ _) | (with_reducible refine Kd.C_drew ?_)))
   (case side6 => exact (Kd.R_reads' HO345.out).2.1)
   (case side7 => repeat (first | exact (Kd.R_reads' HO348.out).2.2 | (with_reducible refine Kd.C_alloc ?_ _) | (with_reducible refine Kd.C_drewN ?_ _) | (with_reducible refine Kd.C_drew ?_)))
   (case side8 => exact (Kd.R_reads' HO348.out).2.1)
   (case side9 => repeat (first | exact (Kd.R_reads' HO357.out).2.2 | (with_reducible refine Kd.C_alloc ?_ _) | (with_reducible refine Kd.C_drewN ?_ _) | (with_reducible refine Kd.C_drew ?_)))
   (case side10 => exact (Kd.R_reads' HO357.out).2.1)
   (case side11 => repeat (first | exact (Kd.R_reads' HO360.out).2.2 | (with_reducible refine Kd.C_alloc ?_ _) | (with_reducible refine Kd.C_drewN ?_ _) | (with_reducible refine Kd.C_drew ?_)))
   (case side12 => exact (Kd.R_reads' HO360.out).2.1)
   (case side13 => repeat (first | exact (Kd.R_reads' HO363.out).2.2 | (with_reducible refine Kd.C_alloc ?_ _) | (with_reducible refine Kd.C_drewN ?_ _) | (with_reducible refine Kd.C_drew ?_)))
   (case side14 => exact (Kd.R_reads' HO363.out).2.1)
   (case side15 => repeat (first | exact (Kd.R_reads' HO366.out).2.2 | (with_reducible refine Kd.C_alloc ?_ _) | (with_reducible refine Kd.C_drewN ?_ _) | (with_reducible refine Kd.C_drew ?_)))
   (case side16 => exact (Kd.R_reads' HO366.out).2.1)
   rintro e w45 ⟨rfl, hb⟩
   refine ⟨_, rfl, ?_⟩
   replace HO323 := q_ (Kd.R_below z21_ hb)
   replace HO326 := q_ (Kd.R_below z22_ hb)
   replace HO329 := q_ (Kd.R_below z25_ hb)
   replace HO332 := q_ (Kd.R_below z19_ hb)
   replace HO335 := q_ (Kd.R_below z23_ hb)
   replace HO339 := q_ (Kd.R_below z30_ hb)
   replace HO342 := q_ (Kd.R_below z31_ hb)
   replace HO345 := q_ (Kd.R_below z43_ hb)
   replace HO348 := q_ (Kd.R_below z32_ hb)
   replace HO352 := q_ (Kd.R_below z33_ hb)
   replace HO357 := q_ (Kd.R_below z63_ hb)
   replace HO360 := q_ (Kd.R_below z64_ hb)
   replace HO363 := q_ (Kd.R_below (by (with_reducible repeat (first | apply Kd.R_alloc | apply Kd.R_drewN | apply Kd.R_drew)); exact HO363.out) hb)
   replace HO366 := q_ (Kd.R_below z65_ hb)
   replace BK318 := rb_ BK318 hb
   replace BK349 := rb_ BK349 hb
   replace HB := hb_ hb
   (try clear hb)
   (try clear hb2)
   (try clear hk)
   (try clear hi)
   refine hK.out _ _ ⟨(blk_cell BK349.out 0).trans rfl, (blk_cell BK349.out 1).trans rfl, (blk_cell BK349.out 2).trans rfl, (blk_cell BK349.out 3).trans rfl, (blk_cell BK349.out 4).trans rfl, (blk_cell BK318.out 0).trans rfl, (blk_cell BK318.out 1).trans rfl, (blk_cell BK318.out 2).trans rfl, (blk_cell BK318.out 3).trans rfl, (blk_cell BK318.out 4).trans rfl⟩ (fun hHeld => ?_)
   clear hK K
   refine norm_ (a' := ?_) ?_ ?_
   rotate_left
   ·show Act.put _ (some 34) _ = _
    simp only [Act.put, List.setIfInBounds_toArray, List.set_cons_zero, List.set_cons_succ, i64_w, i32_w]
    rfl
   refine pure_ (i := 4) (N := some 35) (v := ?_) (a' := ?_) (tf 5 0) rfl rfl (by kernel_rfl) (fun _ _ _ h => h) (Or.inl ⟨by rfl, ?_⟩) ?_ ?_
   rotate_left
   ·intro w'
    go_simp
    with_reducible rfl
   rotate_left
   ·simp only [Act.put, List.setIfInBounds_toArray, List.set_cons_zero, List.set_cons_succ, i64_w, i32_w]
    rfl
   refine done_ (by kernel_rfl) ?_
   go_upto_if 35 with (fail)
   have H := HC38.out
   clear HC38
   replace H := kb_ H; rcases H with ⟨rfl, H⟩ | ⟨rfl, H⟩
   ·replace H := bi_ H; obtain ⟨t368, A47, H⟩ := H
    have HC48 := q_ H
    clear H
    have hnb49 := NB349_318.out
    have hnc49 := NB318_349.out
    obtain ⟨hz_, hz_, hz_, hz_, hz_, hz_, hz_, hz_, hz_, hz_⟩ := cs5_ BK349.out
    go_upto_region 14 with (first | ((with_reducible refine gate_callee (f := 29) rfl ?_); refine goesL_ (some 38) rfl rfl Try.func29 (by kernel_rfl) rfl #[.agg #[.bool t336, .slice Ao27 t337.length co27, .slice Ao28 t340.length co28, .slice Ao29 t343.length co29, .slice Ao30 t346.length co30], .int .i64 1] rfl z0_ ?_; (with_reducible refine (laws_markTree.calls t336 (fun k_ => some k_ = (.slice Ao27 t337.length co27 : Value).ownBlock) (.slice Ao27 t337.length co27) t337 (fun k_ => some k_ = (.slice Ao28 t340.length co28 : Value).ownBlock) (.slice Ao28 t340.length co28) t340 ?mkP_ (.slice Ao29 t343.length co29) t343 (fun k_ => some k_ = (.slice Ao30 t346.length co30 : Value).ownBlock) (.slice Ao30 t346.length co30) t346 1 t368 w _ ?side1 ?side2 ?side3 ?side4 ?side5 A47.out).mono ?_); (case side1 => repeat (first | (with_reducible first | exact HB.out | apply below_alloc | apply pw_below_drewN | apply below_drew1 | refine below_set ?_ GE318.out | refine below_set ?_ GE349.out) | exact HB.out)); (case side2 => exact Kd.R_tight rfl HO339.out); (case side3 => exact Kd.R_tight rfl HO342.out); (case side4 => exact Kd.R_bound HO345.out); (case side5 => exact Kd.R_tight rfl HO348.out); rintro e w51 ⟨rfl, hb, hkp⟩; refine ⟨_, rfl, ?_⟩; replace BK318 := q_ (blk_kept z40_ hkp (fun hs_ => Or.elim hs_ (fun e_ => (fun e_ => (Kd.R_ne HO339.out BK318.out (by decide)) e_) e_) (fun e_ => Or.elim e_ (fun e_ => (fun e_ => (Kd.R_ne HO342.out BK318.out (by decide)) e_) e_) (fun e_ => Or.elim e_ (fun e_ => (fun e_ => mark_far e_.2 z40_ (by decide)) e_) (fun e_ => (fun e_ => (Kd.R_ne HO348.out BK318.out (by decide)) e_) e_))))); replace HO323 := q_ (Kd.R_mono (ok' := fun k_ => some k_ ≠ (.slice Ao41 t355.length co41 : Value).ownBlock) (Kd.R_keptB ((Kd.R_apart' (Kd.R_tight2 rfl (Kd.R_apart' HO323.out (Kd.R_typed HO342.out) (by decide))) (Kd.R_typed HO348.out) (by decide))) hkp (fun k_ hk_ hs_ => Or.elim hs_ (fun e_ => (hk_.1.2.1.1.2) e_) (fun e_ => Or.elim e_ (fun e_ => (hk_.1.2.2) e_) (fun e_ => Or.elim e_ (fun e_ => (fun e_ => (e_.1.1.1.1.1.1.1.1.1.1.1.2) (hk_.1.1)) e_) (fun e_ => (hk_.2) e_))))) (fun k_ hk_ => hk_.1.1.2.1.2)); replace HO326 := q_ (Kd.R_mono (ok' := fun k_ => some k_ ≠ (.slice Ao42 t358.length co42 : Value).ownBlock) (Kd.R_keptB ((Kd.R_apart' (Kd.R_tight2 rfl (Kd.R_apart' HO326.out (Kd.R_typed HO339.out) (by decide))) (Kd.R_typed HO348.out) (by decide))) hkp (fun k_ hk_ hs_ => Or.elim hs_ (fun e_ => (hk_.1.2.2) e_) (fun e_ => Or.elim e_ (fun e_ => (hk_.1.2.1.1.2) e_) (fun e_ => Or.elim e_ (fun e_ => (fun e_ => (e_.1.1.1.1.1.1.1.1.1.1.2) (hk_.1.1)) e_) (fun e_ => (hk_.2) e_))))) (fun k_ hk_ => hk_.1.1.2.1.2)); replace HO332 := q_ (Kd.R_mono (ok' := fun k_ => some k_ ≠ (.slice Ao33 t333.length co33 : Value).ownBlock ∧ some k_ ≠ (.slice Ao32 t350.length co32 : Value).ownBlock ∧ some k_ ≠ (.slice Ao44 t364.length co44 : Value).ownBlock) (Kd.R_keptB ((Kd.R_tight2 rfl (Kd.R_apart' (Kd.R_apart' HO332.out (Kd.R_typed HO339.out) (by decide)) (Kd.R_typed HO342.out) (by decide)))) hkp (fun k_ hk_ hs_ => Or.elim hs_ (fun e_ => (hk_.2.1.2) e_) (fun e_ => Or.elim e_ (fun e_ => (hk_.2.2) e_) (fun e_ => Or.elim e_ (fun e_ => (fun e_ => (e_.1.1.1.1.1.1.1.1.2) (hk_.1)) e_) (fun e_ => (hk_.2.1.1.1.1.2) e_))))) (fun k_ hk_ => ⟨hk_.1.2.1.1.1.1.1.2, hk_.1.2.1.1.1.2, hk_.1.2.1.1.2⟩)); replace HO335 := q_ (Kd.R_mono (ok' := fun k_ => some k_ ≠ (.slice Ao20 t330.length co20 : Value).ownBlock ∧ some k_ ≠ (.slice Ao32 t350.length co32 : Value).ownBlock ∧ some k_ ≠ (.slice Ao44 t364.length co44 : Value).ownBlock) (Kd.R_keptB ((Kd.R_tight2 rfl (Kd.R_apart' (Kd.R_apart' HO335.out (Kd.R_typed HO339.out) (by decide)) (Kd.R_typed HO342.out) (by decide)))) hkp (fun k_ hk_ hs_ => Or.elim hs_ (fun e_ => (hk_.2.1.2) e_) (fun e_ => Or.elim e_ (fun e_ => (hk_.2.2) e_) (fun e_ => Or.elim e_ (fun e_ => (fun e_ => (e_.1.1.1.1.1.1.1.2) (hk_.1)) e_) (fun e_ => (hk_.2.1.1.1.1.2) e_))))) (fun k_ hk_ => ⟨hk_.1.2.1.1.1.1.1.2, hk_.1.2.1.1.1.2, hk_.1.2.1.1.2⟩)); replace BK349 := q_ (blk_kept z61_ hkp (fun hs_ => Or.elim hs_ (fun e_ => (fun e_ => (Kd.R_ne HO339.out BK349.out (by decide)) e_) e_) (fun e_ => Or.elim e_ (fun e_ => (fun e_ => (Kd.R_ne HO342.out BK349.out (by decide)) e_) e_) (fun e_ => Or.elim e_ (fun e_ => (fun e_ => (e_.1.1.1.1.1.1.2) rfl) e_) (fun e_ => (fun e_ => (Kd.R_ne HO348.out BK349.out (by decide)) e_) e_))))); replace HO352 := q_ (Kd.R_mono (ok' := fun k_ => some k_ ≠ (.slice Ao20 t330.length co20 : Value).ownBlock ∧ some k_ ≠ (.slice Ao33 t333.length co33 : Value).ownBlock ∧ some k_ ≠ (.slice Ao44 t364.length co44 : Value).ownBlock) (Kd.R_keptB ((Kd.R_tight2 rfl (Kd.R_apart' (Kd.R_apart' HO352.out (Kd.R_typed HO339.out) (by decide)) (Kd.R_typed HO342.out) (by decide)))) hkp (fun k_ hk_ hs_ => Or.elim hs_ (fun e_ => (hk_.2.1.2) e_) (fun e_ => Or.elim e_ (fun e_ => (hk_.2.2) e_) (fun e_ => Or.elim e_ (fun e_ => (fun e_ => (e_.1.1.1.1.1.2) (hk_.1)) e_) (fun e_ => (hk_.2.1.1.1.2) e_))))) (fun k_ hk_ => ⟨hk_.1.2.1.1.1.1.1.2, hk_.1.2.1.1.1.1.2, hk_.1.2.1.1.2⟩)); replace HO357 := q_ (Kd.R_mono (ok' := fun k_ => some k_ ≠ (.slice Ao17 t321.length co17 : Value).ownBlock) (Kd.R_keptB ((Kd.R_apart' (Kd.R_tight2 rfl (Kd.R_apart' HO357.out (Kd.R_typed HO342.out) (by decide))) (Kd.R_typed HO348.out) (by decide))) hkp (fun k_ hk_ hs_ => Or.elim hs_ (fun e_ => (hk_.1.2.1.2) e_) (fun e_ => Or.elim e_ (fun e_ => (hk_.1.2.2) e_) (fun e_ => Or.elim e_ (fun e_ => (fun e_ => (e_.1.1.1.1.2) (hk_.1.1)) e_) (fun e_ => (hk_.2) e_))))) (fun k_ hk_ => hk_.1.1.2.1.1.2)); replace HO360 := q_ (Kd.R_mono (ok' := fun k_ => some k_ ≠ (.slice Ao18 t324.length co18 : Value).ownBlock) (Kd.R_keptB ((Kd.R_apart' (Kd.R_tight2 rfl (Kd.R_apart' HO360.out (Kd.R_typed HO339.out) (by decide))) (Kd.R_typed HO348.out) (by decide))) hkp (fun k_ hk_ hs_ => Or.elim hs_ (fun e_ => (hk_.1.2.2) e_) (fun e_ => Or.elim e_ (fun e_ => (hk_.1.2.1.2) e_) (fun e_ => Or.elim e_ (fun e_ => (fun e_ => (e_.1.1.1.2) (hk_.1.1)) e_) (fun e_ => (hk_.2) e_))))) (fun k_ hk_ => hk_.1.1.2.1.1.2)); replace HO366 := q_ (Kd.R_mono (ok' := fun k_ => some k_ ≠ (.slice Ao20 t330.length co20 : Value).ownBlock ∧ some k_ ≠ (.slice Ao33 t333.length co33 : Value).ownBlock ∧ some k_ ≠ (.slice Ao32 t350.length co32 : Value).ownBlock) (Kd.R_keptB ((Kd.R_tight2 rfl (Kd.R_apart' (Kd.R_apart' HO366.out (Kd.R_typed HO339.out) (by decide)) (Kd.R_typed HO342.out) (by decide)))) hkp (fun k_ hk_ hs_ => Or.elim hs_ (fun e_ => (hk_.2.1.2) e_) (fun e_ => Or.elim e_ (fun e_ => (hk_.2.2) e_) (fun e_ => Or.elim e_ (fun e_ => (fun e_ => (e_.1.2) (hk_.1)) e_) (fun e_ => (hk_.2.1.1.1.2) e_))))) (fun k_ hk_ => ⟨hk_.1.2.1.1.1.1.1.2, hk_.1.2.1.1.1.1.2, hk_.1.2.1.1.2⟩)); replace HB := q_ (hb); clear HO329 HO339 HO342 HO345 HO348 HO363; (try clear hb); (try clear hkp)))
    (try simp only [Act.put, List.setIfInBounds_toArray, List.set_cons_zero, List.set_cons_succ])
    go_cut [46] (fun v46 wc => ∃ (kq : Nat) (x46_47 : Bool), v46 = .bool x46_47 ∧ Aside0 (laws_FnExactPending.j0 kq a1 t333 t350 x46_47 a0_0 l0_1 l0_2 l0_3 l0_4 = some r) ∧ Aside0 (kq ≤ k) ∧ Aside0 (Kd.R k72 72 wc w.heap.size (fun k_ => some k_ ≠ ((.slice Ao32 t350.length co32) : Value).ownBlock) (.slice Ao33 t333.length co33) t333) ∧ Aside0 (Kd.R k72 72 wc w.heap.size (fun k_ => some k_ ≠ ((.slice Ao33 t333.length co33) : Value).ownBlock) (.slice Ao32 t350.length co32) t350) ∧ Aside0 (wc.heap[gb318]? = some (.cells #[.bool a0_0, (.slice A0_1 l0_1.length c0_1), (.slice A0_2 l0_2.length c0_2), (.slice A0_3 l0_3.length c0_3), (.slice A0_4 l0_4.length c0_4)] 27 (0, 0))) ∧ Aside0 (Below w.heap.size w wc))
    case first =>
     have H := HC48.out
     clear HC48
     replace H := kd_ H; rcases H with ⟨c52b0, H⟩ | ⟨c52b0, H⟩
     ·(first | rw [c52b0] | rw [c52b1] | (simp only [i64_w, i32_w]; first | rw [c52b0] | rw [c52b1]) | rw [c52b2] | skip)
      have H' := q_ H
      clear H
      go_wp2
      go_meet
      case rel => exact ⟨_, (true), z4_, H', ⟨z42_⟩, ⟨z57_⟩, ⟨z58_⟩, ⟨z40_⟩, ⟨cb_⟩⟩
     ·(first | rw [c52b0] | rw [c52b1] | (simp only [i64_w, i32_w]; first | rw [c52b0] | rw [c52b1]) | rw [c52b2] | skip)
      replace H := bi_ H; obtain ⟨t369, A53, H⟩ := H
      have H' := q_ H
      clear H
      go_wp2_with (first | (go_at_call 28; (with_reducible refine (laws_eqMsgS.calls k _ _ t350 _ _ t333 t369 _ ?side1 ?side2 ?side3 ?side4 A53.out).mono ?_); (case side1 => exact z96_); (case side2 => exact (Kd.R_reads' HO352.out).2.1); (case side3 => exact z97_); (case side4 => exact (Kd.R_reads' HO335.out).2.1); rintro e w54 ⟨rfl, hb⟩; replace HO323 := q_ (Kd.R_below z21_ hb); replace HO326 := q_ (Kd.R_below z22_ hb); replace HO332 := q_ (Kd.R_below z19_ hb); replace HO335 := q_ (Kd.R_below z23_ hb); replace HO352 := q_ (Kd.R_below z33_ hb); replace HO357 := q_ (Kd.R_below z63_ hb); replace HO360 := q_ (Kd.R_below z64_ hb); replace HO366 := q_ (Kd.R_below z65_ hb); replace BK318 := rb_ BK318 hb; replace HB := hb_ hb; (try clear hb); (try clear hb2); (try clear hk); (try clear hi)))
      go_meet
      case rel => exact ⟨_, (!t369), z4_, H', ⟨z42_⟩, ⟨z57_⟩, ⟨z58_⟩, ⟨z40_⟩, ⟨cb_⟩⟩
    case rest =>
     clear HC48
     try clear c1
     try clear c2
     try clear p2
     try clear c3
     try clear c4
     try clear c5
     try clear c7
     try clear c8
     try clear c8b0
     try clear c8b1
     try clear c8b2
     try clear c15
     try clear c17
     try clear c19
     try clear c25
     try clear c26
     try clear c27
     try clear c28
     try clear c29
     try clear c35
     try clear c46
     try clear c49
     try clear c52
     try clear c52b0
     try clear c52b1
     try clear c52b2
     repeat clear hz_
     obtain ⟨kq, x46_47, rfl, HA, HJ47, HO_6, HO_8, BK318, HB⟩ := hcut
     obtain ⟨kj47, rfl, H⟩ := rn_ (k := kq) HA (by rintro rfl; simp only [laws_FnExactPending.j0])
     clear HA
     simp only [laws_FnExactPending.j0] at H
     replace H := kb_ H; rcases H with ⟨rfl, H⟩ | ⟨rfl, H⟩
     ·obtain rfl := si_ H
      go_wp2
      go_ret
      exact ⟨z1_, cb_⟩
     ·replace H := bi_ H; obtain ⟨⟨t370, t371⟩, A56, H⟩ := H
      (try dsimp only at H)
      replace H := bi_ H; obtain ⟨t372, A57, H⟩ := H
      have HC58 := q_ H
      clear H
      go_upto_if 54 with (first | ((with_reducible refine gate_callee (f := 30) rfl ?_); refine goesL_ (some 49) rfl rfl Try.func30 (by kernel_rfl) rfl #[.slice Ao32 t350.length co32, .int .i64 1] rfl z0_ ?_; (with_reducible refine (laws_markMsgS.calls kj47 (fun k_ => some k_ = (.slice Ao32 t350.length co32 : Value).ownBlock) (.slice Ao32 t350.length co32) t350 1 t370 t371 w _ ?side1 ?side2 A56.out).mono ?_); (case side1 => repeat (first | (with_reducible first | exact HB.out | apply below_alloc | apply pw_below_drewN | apply below_drew1 | refine below_set ?_ GE318.out) | exact HB.out)); (case side2 => exact Kd.R_tight rfl HO_8.out); rintro e w59 ⟨rfl, hy0, hb, hkp⟩; refine ⟨_, rfl, ?_⟩; replace HO_6 := q_ (Kd.R_mono (ok' := fun k_ => some k_ ≠ (.slice Ao32 t350.length co32 : Value).ownBlock) (Kd.R_keptB (HO_6.out) hkp (fun k_ hk_ hs_ => (hk_) hs_)) (fun k_ hk_ => hk_.1)); replace BK318 := q_ (blk_kept z40_ hkp (fun hs_ => (fun e_ => (Kd.R_ne HO_8.out BK318.out (by decide)) e_) hs_)); replace HO_8 := q_ (Kd.R_reok rfl hy0 (fun k_ e_ => HO_8.out.1 k_ e_)); replace HB := q_ (hb); (try clear hb); (try clear hkp); (try clear hy0)) | ((with_reducible refine gate_callee (f := 31) rfl ?_); refine goesL_ (some 52) rfl rfl Try.func31 (by kernel_rfl) rfl #[.slice Ao32 t371.length co32, .int .i64 1] rfl z49_ ?_; (with_reducible refine (laws_heldMsgS.calls kj47 _ _ t371 1 t372 _ ?side1 ?side2 A57.out).mono ?_); (case side1 => exact z99_); (case side2 => exact z102_); rintro e w' ⟨rfl, ⟨nd, rfl⟩⟩; refine ⟨_, rfl, ?_⟩))
      (try simp only [Act.put, List.setIfInBounds_toArray, List.set_cons_zero, List.set_cons_succ])
      have H := HC58.out
      clear HC58
      replace H := kd_ H; rcases H with ⟨c60b0, H⟩ | ⟨c60b0, H⟩
      ·(first | rw [c60b0] | rw [c60b1] | (simp only [i64_w, i32_w]; first | rw [c60b0] | rw [c60b1]) | rw [c60b2] | skip)
       obtain rfl := si_ H
       go_wp2
       go_ret
       exact ⟨z1_, cb_⟩
      ·(first | rw [c60b0] | rw [c60b1] | (simp only [i64_w, i32_w]; first | rw [c60b0] | rw [c60b1]) | rw [c60b2] | skip)
       replace H := ke_ H; rcases H with ⟨c61b0, c61b1, H⟩ | ⟨c61, c61b0, c61b1, H⟩
       ·replace H := bi_ H; obtain ⟨⟨t373, t374, t377, t380, t383⟩, A62, H⟩ := H
        (try dsimp only at H)
        replace H := bi_ H; obtain ⟨t386, A63, H⟩ := H
        replace H := bi_ H; obtain ⟨t389, A64, H⟩ := H
        have HC65 := q_ H
        clear H
        obtain ⟨hz_, hz_, hz_, hz_, hz_, hz_, hz_, hz_, hz_, hz_⟩ := cs5_ BK318.out
        go_upto_if 65 with (first | ((with_reducible refine gate_callee (f := 17) rfl ?_); refine goesL_ (some 59) rfl rfl Try.func17 (by kernel_rfl) rfl #[.agg #[.bool a0_0, .slice A0_1 l0_1.length c0_1, .slice A0_2 l0_2.length c0_2, .slice A0_3 l0_3.length c0_3, .slice A0_4 l0_4.length c0_4]] rfl z0_ ?_; (with_reducible refine (laws_toTree.calls kj47 a0_0 _ _ l0_1 _ _ l0_2 _ _ l0_3 _ _ l0_4 t373 t374 t377 t380 t383 _ ?side1 ?side2 ?side3 ?side4 ?side5 ?side6 ?side7 ?side8 A62.out).mono ?_); (case side1 => repeat (first | exact (Kd.C_below HR0_1.out cb_) | (with_reducible refine Kd.C_alloc ?_ _) | (with_reducible refine Kd.C_drewN ?_ _) | (with_reducible refine Kd.C_drew ?_))); (case side2 => exact z95_); (case side3 => exact z98_); (case side4 => exact HC0_2.out); (case side5 => exact z92_); (case side6 => exact HC0_3.out); (case side7 => repeat (first | exact (Kd.C_below HR0_4.out cb_) | (with_reducible refine Kd.C_alloc ?_ _) | (with_reducible refine Kd.C_drewN ?_ _) | (with_reducible refine Kd.C_drew ?_))); (case side8 => exact HC0_4.out); rintro e w67 ⟨v375, v378, v381, v384, rfl, ho0, ho1, ho2, ho3, hb⟩; refine ⟨_, rfl, ?_⟩; have HO376 := q_ (Kd.R_lower ho0 (below_size cb_)); have HO379 := q_ (Kd.R_lower ho1 (below_size cb_)); have HO382 := q_ (Kd.R_lower (Kd.R_new' (Kd.R_new' ho2 (Kd.R_lt z34_)) (Kd.R_lt z35_)) (below_size cb_)); have HO385 := q_ (Kd.R_lower (Kd.R_new' (Kd.R_new' ho3 (Kd.R_lt z34_)) (Kd.R_lt z35_)) (below_size cb_)); replace HO_6 := q_ (Kd.R_elder' z34_ (Kd.R_base ho3) hb); replace HO_8 := q_ (Kd.R_elder' z35_ (Kd.R_base ho3) hb); replace BK318 := rb_ BK318 hb; replace HB := hb_ hb; (try clear hb); (try clear hb2); (try clear hk); (try clear hi); (try clear ho0); (try clear ho1); (try clear ho2); (try clear ho3); obtain ⟨Ao68, co68, eo68⟩ := Kd.R_slice HO376.out; subst eo68; obtain ⟨Ao69, co69, eo69⟩ := Kd.R_slice HO379.out; subst eo69; obtain ⟨Ao70, co70, eo70⟩ := Kd.R_slice HO382.out; subst eo70; obtain ⟨Ao71, co71, eo71⟩ := Kd.R_slice HO385.out; subst eo71) | ((with_reducible refine gate_callee (f := 27) rfl ?_); refine goesL_ (some 61) rfl rfl Try.func27 (by kernel_rfl) rfl #[.agg #[.bool t373, .slice Ao68 t374.length co68, .slice Ao69 t377.length co69, .slice Ao70 t380.length co70, .slice Ao71 t383.length co71], .int .i64 a1] rfl z0_ ?_; (with_reducible refine (impl_Pending.calls kj47 t373 _ _ t374 _ _ t377 _ _ t380 _ _ t383 a1 t386 _ ?side1 ?side2 ?side3 ?side4 ?side5 ?side6 ?side7 ?side8 A63.out).mono ?_); (case side1 => repeat (first | exact (Kd.R_reads' HO376.out).2.2 | (with_reducible refine Kd.C_alloc ?_ _) | (with_reducible refine Kd.C_drewN ?_ _) | (with_reducible refine Kd.C_drew ?_))); (case side2 => exact (Kd.R_reads' HO376.out).2.1); (case side3 => repeat (first | exact (Kd.R_reads' HO379.out).2.2 | (with_reducible refine Kd.C_alloc ?_ _) | (with_reducible refine Kd.C_drewN ?_ _) | (with_reducible refine Kd.C_drew ?_))); (case side4 => exact (Kd.R_reads' HO379.out).2.1); (case side5 => repeat (first | exact (Kd.R_reads' HO382.out).2.2 | (with_reducible refine Kd.C_alloc ?_ _) | (with_reducible refine Kd.C_drewN ?_ _) | (with_reducible refine Kd.C_drew ?_))); (case side6 => exact (Kd.R_reads' HO382.out).2.1); (case side7 => repeat (first | exact (Kd.R_reads' HO385.out).2.2 | (with_reducible refine Kd.C_alloc ?_ _) | (with_reducible refine Kd.C_drewN ?_ _) | (with_reducible refine Kd.C_drew ?_))); (case side8 => exact (Kd.R_reads' HO385.out).2.1); rintro e w72 ⟨v387, rfl, ho0, hb⟩; refine ⟨_, rfl, ?_⟩; replace HO376 := q_ (Kd.R_below z66_ hb); replace HO379 := q_ (Kd.R_below z67_ hb); replace HO382 := q_ (Kd.R_elder' z68_ (Kd.R_base ho0) hb); have HO388 := q_ (Kd.R_lower (Kd.R_new' (Kd.R_new' (Kd.R_new' ho0 (Kd.R_lt z34_)) (Kd.R_lt z35_)) (Kd.R_lt z56_)) (below_size cb_)); replace HO_6 := q_ (Kd.R_elder' z34_ (Kd.R_base ho0) hb); replace HO_8 := q_ (Kd.R_elder' z35_ (Kd.R_base ho0) hb); replace HO385 := q_ (Kd.R_elder' z56_ (Kd.R_base ho0) hb); replace BK318 := rb_ BK318 hb; replace HB := hb_ hb; (try clear hb); (try clear hb2); (try clear hk); (try clear hi); (try clear ho0); obtain ⟨Ao73, co73, eo73⟩ := Kd.R_slice HO388.out; subst eo73) | ((with_reducible refine gate_callee (f := 28) rfl ?_); refine goesL_ (some 64) rfl rfl Try.func28 (by kernel_rfl) rfl #[.slice Ao73 t386.length co73, .slice Ao33 t333.length co33] rfl z0_ ?_; (with_reducible refine (laws_eqMsgS.calls kj47 _ _ t386 _ _ t333 t389 _ ?side1 ?side2 ?side3 ?side4 A64.out).mono ?_); (case side1 => repeat (first | exact (Kd.R_reads' HO388.out).2.2 | (with_reducible refine Kd.C_alloc ?_ _) | (with_reducible refine Kd.C_drewN ?_ _) | (with_reducible refine Kd.C_drew ?_))); (case side2 => exact (Kd.R_reads' HO388.out).2.1); (case side3 => repeat (first | exact (Kd.R_reads' HO_6.out).2.2 | (with_reducible refine Kd.C_alloc ?_ _) | (with_reducible refine Kd.C_drewN ?_ _) | (with_reducible refine Kd.C_drew ?_))); (case side4 => exact (Kd.R_reads' HO_6.out).2.1); rintro e w74 ⟨rfl, hb⟩; refine ⟨_, rfl, ?_⟩; replace HO_6 := q_ (Kd.R_below z34_ hb); replace HO_8 := q_ (Kd.R_below z35_ hb); replace HO376 := q_ (Kd.R_below z66_ hb); replace HO379 := q_ (Kd.R_below z67_ hb); replace HO382 := q_ (Kd.R_below z68_ hb); replace HO385 := q_ (Kd.R_below z56_ hb); replace HO388 := q_ (Kd.R_below (by (with_reducible repeat (first | apply Kd.R_alloc | apply Kd.R_drewN | apply Kd.R_drew)); exact HO388.out) hb); replace BK318 := rb_ BK318 hb; replace HB := hb_ hb; (try clear hb); (try clear hb2); (try clear hk); (try clear hi)))
        (try simp only [Act.put, List.setIfInBounds_toArray, List.set_cons_zero, List.set_cons_succ])
        have H := HC65.out
        clear HC65
        replace H := kb_ H; rcases H with ⟨rfl, H⟩ | ⟨rfl, H⟩
        ·replace H := bi_ H; obtain ⟨t390, A76, H⟩ := H
         have HC77 := q_ H
         clear H
         go_upto_if 70 with (first | ((with_reducible refine gate_callee (f := 31) rfl ?_); refine goesL_ (some 68) rfl rfl Try.func31 (by kernel_rfl) rfl #[.slice Ao32 t371.length co32, .int .i64 1] rfl z49_ ?_; (with_reducible refine (laws_heldMsgS.calls kj47 _ _ t371 1 t390 _ ?side1 ?side2 A76.out).mono ?_); (case side1 => exact z99_); (case side2 => exact z102_); rintro e w' ⟨rfl, ⟨nd, rfl⟩⟩; refine ⟨_, rfl, ?_⟩))
         (try simp only [Act.put, List.setIfInBounds_toArray, List.set_cons_zero, List.set_cons_succ])
         have H := HC77.out
         clear HC77
         replace H := kd_ H; rcases H with ⟨c78b0, H⟩ | ⟨c78b0, H⟩
         ·(first | rw [c78b0] | rw [c78b1] | (simp only [i64_w, i32_w]; first | rw [c78b0] | rw [c78b1]) | rw [c78b2] | skip)
          obtain rfl := si_ H
          go_wp2
          go_ret
          exact ⟨z1_, cb_⟩
         ·(first | rw [c78b0] | rw [c78b1] | (simp only [i64_w, i32_w]; first | rw [c78b0] | rw [c78b1]) | rw [c78b2] | skip)
          replace H := ke_ H; rcases H with ⟨c79b0, c79b1, H⟩ | ⟨c79, c79b0, c79b1, H⟩
          ·obtain rfl := si_ H
           go_wp2
           go_ret
           exact ⟨z1_, cb_⟩
          ·obtain rfl := si_ H
           go_wp2
           go_ret
           exact ⟨z1_, cb_⟩
        ·obtain rfl := si_ H
         go_wp2
         go_ret
         exact ⟨z1_, cb_⟩
       ·obtain rfl := si_ H
        go_wp2
        go_ret
        exact ⟨z1_, cb_⟩
   ·obtain rfl := si_ H
    go_wp2
    go_ret
    exact ⟨z1_, cb_⟩
  ·obtain rfl := si_ H
   go_wp2
   go_ret
   exact ⟨z1_, cb_⟩

end Go.Proofs.Ytfnndcpaldkkoaa.PFnExactPending
