-- Written by a program of this session, which goes by the kit's print. Not trusted: Lean checks it.
import Derived.Test.YtfnndcpaldkkoaaPFnExactMachineSamex0
import Derived.Test.YtfnndcpaldkkoaaPFnExactMachineSamex3
import Derived.Test.YtfnndcpaldkkoaaPFnExactMachineSamex10
import Derived.Test.YtfnndcpaldkkoaaPFnExactMachineSamex12
import Derived.Test.YtfnndcpaldkkoaaPFnExactMachineSamex18
import Derived.Test.YtfnndcpaldkkoaaPFnExactMachineSamex21
namespace Go.Proofs.Ytfnndcpaldkkoaa.PFnExactMachineSame
open Go.RowKit Go.Proofs.YtfnndcpaldkkoaaW.PrintWords Go.Proofs.YtfnndcpaldkkoaaW.PrintLast Go.Proofs.YtfnndcpaldkkoaaW.PrintMore
attribute [local go_sem] max2_int min2_int max_two min_two max_three min_three max_four min_four   -- for this text's walks alone
set_option linter.unusedVariables false
set_option linter.unusedSimpArgs false

/-! ### laws_FnExactMachineSame: function 12 -/
def laws_FnExactMachineSame.f (k : Nat) (a0_0 : Bool) (l0_1 : List (S107)) (l0_2 : List Int) (l0_3 : List (S27)) (l0_4 : List (S109)) (l0_5 : List (S122)) (a1_0 : Bool) (l1_1 : List (S107)) (l1_2 : List Int) (l1_3 : List (S27)) (l1_4 : List (S109)) (l1_5 : List (S122)) : Option (Bool) := (laws_szMachine.f k a0_0 l0_1 l0_2 l0_3 l0_4 l0_5 1048576).bind fun t491 => (if t491 < 0 then (some true) else ((laws_szMachine.f k a1_0 l1_1 l1_2 l1_3 l1_4 l1_5 t491).bind fun t492 => (if t492 < 0 then (some true) else ((laws_toMachine.f k a0_0 l0_1 l0_2 l0_3 l0_4 l0_5).bind fun bt493 => ((laws_toMachine.f k a1_0 l1_1 l1_2 l1_3 l1_4 l1_5).bind fun bt509 => ((spec_MachineSame.f k bt493.1 bt493.2.1 bt493.2.2.1 bt493.2.2.2.1 bt493.2.2.2.2.1 bt493.2.2.2.2.2 bt509.1 bt509.2.1 bt509.2.2.1 bt509.2.2.2.1 bt509.2.2.2.2.1 bt509.2.2.2.2.2).bind fun t525 => ((laws_toMachine.f k a0_0 l0_1 l0_2 l0_3 l0_4 l0_5).bind fun bt526 => ((laws_toMachine.f k a1_0 l1_1 l1_2 l1_3 l1_4 l1_5).bind fun bt543 => ((impl_MachineSame.f k bt526.1 bt526.2.1 bt526.2.2.1 bt526.2.2.2.1 bt526.2.2.2.2.1 bt526.2.2.2.2.2 bt543.1 bt543.2.1 bt543.2.2.1 bt543.2.2.2.1 bt543.2.2.2.2.1 bt543.2.2.2.2.2).bind fun t560 => (if (t560 != t525) = true then (some false) else ((laws_toMachine.f k a0_0 l0_1 l0_2 l0_3 l0_4 l0_5).bind fun bt561 => ((laws_eqMachine.f k bt526.1 bt526.2.1 bt526.2.2.1 bt526.2.2.2.1 bt526.2.2.2.2.1 bt526.2.2.2.2.2 bt561.1 bt561.2.1 bt561.2.2.1 bt561.2.2.2.1 bt561.2.2.2.2.1 bt561.2.2.2.2.2).bind fun t577 => (if t577 = true then ((laws_toMachine.f k a1_0 l1_1 l1_2 l1_3 l1_4 l1_5).bind fun bt578 => ((laws_eqMachine.f k bt543.1 bt543.2.1 bt543.2.2.1 bt543.2.2.2.1 bt543.2.2.2.2.1 bt543.2.2.2.2.2 bt578.1 bt578.2.1 bt578.2.2.1 bt578.2.2.2.1 bt578.2.2.2.2.1 bt578.2.2.2.2.2).bind fun t594 => (if t594 = true then (some true) else (some false)))) else (some false))))))))))))))
theorem laws_FnExactMachineSame.mono : ∀ a0 a1 a2 a3 a4 a5 a6 a7 a8 a9 a10 a11 k, LeO (laws_FnExactMachineSame.f k a0 a1 a2 a3 a4 a5 a6 a7 a8 a9 a10 a11) (laws_FnExactMachineSame.f (k + 1) a0 a1 a2 a3 a4 a5 a6 a7 a8 a9 a10 a11) := by
 intro a0 a1 a2 a3 a4 a5 a6 a7 a8 a9 a10 a11 k
 unfold laws_FnExactMachineSame.f
 have m0 := @impl_MachineSame.mono
 have m1 := @laws_eqMachine.mono
 have m2 := @laws_szMachine.mono
 have m3 := @laws_toMachine.mono
 have m4 := @spec_MachineSame.mono
 exact zm_
set_option maxHeartbeats 8000000 in
set_option maxRecDepth 100000 in
theorem laws_FnExactMachineSame.calls (k : Nat) (a0_0 : Bool) (A0_1 : Option Addr) (c0_1 : Nat) (l0_1 : List (S107)) (A0_2 : Option Addr) (c0_2 : Nat) (l0_2 : List Int) (A0_3 : Option Addr) (c0_3 : Nat) (l0_3 : List (S27)) (A0_4 : Option Addr) (c0_4 : Nat) (l0_4 : List (S109)) (A0_5 : Option Addr) (c0_5 : Nat) (l0_5 : List (S122)) (a1_0 : Bool) (A1_1 : Option Addr) (c1_1 : Nat) (l1_1 : List (S107)) (A1_2 : Option Addr) (c1_2 : Nat) (l1_2 : List Int) (A1_3 : Option Addr) (c1_3 : Nat) (l1_3 : List (S27)) (A1_4 : Option Addr) (c1_4 : Nat) (l1_4 : List (S109)) (A1_5 : Option Addr) (c1_5 : Nat) (l1_5 : List (S122)) (r : Bool) (w : World) (hr0_1 : Kd.C k107 w A0_1 l0_1.length l0_1) (hc0_1 : l0_1.length ≤ c0_1) (hr0_2 : Kd.C (Kd.int .i64) w A0_2 l0_2.length l0_2) (hc0_2 : l0_2.length ≤ c0_2) (hr0_3 : Kd.C k27 w A0_3 l0_3.length l0_3) (hc0_3 : l0_3.length ≤ c0_3) (hr0_4 : Kd.C k109 w A0_4 l0_4.length l0_4) (hc0_4 : l0_4.length ≤ c0_4) (hr0_5 : Kd.C k122 w A0_5 l0_5.length l0_5) (hc0_5 : l0_5.length ≤ c0_5) (hr1_1 : Kd.C k107 w A1_1 l1_1.length l1_1) (hc1_1 : l1_1.length ≤ c1_1) (hr1_2 : Kd.C (Kd.int .i64) w A1_2 l1_2.length l1_2) (hc1_2 : l1_2.length ≤ c1_2) (hr1_3 : Kd.C k27 w A1_3 l1_3.length l1_3) (hc1_3 : l1_3.length ≤ c1_3) (hr1_4 : Kd.C k109 w A1_4 l1_4.length l1_4) (hc1_4 : l1_4.length ≤ c1_4) (hr1_5 : Kd.C k122 w A1_5 l1_5.length l1_5) (hc1_5 : l1_5.length ≤ c1_5) (h : laws_FnExactMachineSame.f k a0_0 l0_1 l0_2 l0_3 l0_4 l0_5 a1_0 l1_1 l1_2 l1_3 l1_4 l1_5 = some r) :
  Calls Try.prog 12 #[.agg #[.bool a0_0, .slice A0_1 l0_1.length c0_1, .slice A0_2 l0_2.length c0_2, .slice A0_3 l0_3.length c0_3, .slice A0_4 l0_4.length c0_4, .slice A0_5 l0_5.length c0_5], .agg #[.bool a1_0, .slice A1_1 l1_1.length c1_1, .slice A1_2 l1_2.length c1_2, .slice A1_3 l1_3.length c1_3, .slice A1_4 l1_4.length c1_4, .slice A1_5 l1_5.length c1_5]] w fun e w' => e = .returned (.bool r) ∧ Below w.heap.size w w' := by
 have hu59 := Try.underlying59
 have hu64 := Try.underlying64
 have HR0_1 := q_ hr0_1
 have HC0_1 := q_ hc0_1
 clear hr0_1 hc0_1
 have HR0_2 := q_ hr0_2
 have HC0_2 := q_ hc0_2
 clear hr0_2 hc0_2
 have HR0_3 := q_ hr0_3
 have HC0_3 := q_ hc0_3
 clear hr0_3 hc0_3
 have HR0_4 := q_ hr0_4
 have HC0_4 := q_ hc0_4
 clear hr0_4 hc0_4
 have HR0_5 := q_ hr0_5
 have HC0_5 := q_ hc0_5
 clear hr0_5 hc0_5
 have HR1_1 := q_ hr1_1
 have HC1_1 := q_ hc1_1
 clear hr1_1 hc1_1
 have HR1_2 := q_ hr1_2
 have HC1_2 := q_ hc1_2
 clear hr1_2 hc1_2
 have HR1_3 := q_ hr1_3
 have HC1_3 := q_ hc1_3
 clear hr1_3 hc1_3
 have HR1_4 := q_ hr1_4
 have HC1_4 := q_ hc1_4
 clear hr1_4 hc1_4
 have HR1_5 := q_ hr1_5
 have HC1_5 := q_ hc1_5
 clear hr1_5 hc1_5
 have HB := q_ (Below.refl w.heap.size w)
 have H := h; clear h
 unfold laws_FnExactMachineSame.f at H
 replace H := bi_ H; obtain ⟨t491, A3, H⟩ := H
 have HC4 := q_ H
 clear H
 go_enter Try.func12, Try.ntmps12
 go_upto_if 14 with (first | ((with_reducible refine gate_dst (N := 2) rfl ?_); refine box_event ?hg (N := 2) ?hd (cs := #[.bool a0_0, .slice A0_1 l0_1.length c0_1, .slice A0_2 l0_2.length c0_2, .slice A0_3 l0_3.length c0_3, .slice A0_4 l0_4.length c0_4, .slice A0_5 l0_5.length c0_5]) (t := 59) ?hr ?_; (case hd => rfl); (case hg => rfl); (case hr => exact z92_); intro gb489 hg w5 hbox hb; have BK489 := q_ (hbox); have GW489 := ge_ hg; have GE489 := ge_ hg; replace HB := hb_ hb; clear hb hbox hg) | ((with_reducible refine gate_dst (N := 3) rfl ?_); refine box_event ?hg (N := 3) ?hd (cs := #[.bool a1_0, .slice A1_1 l1_1.length c1_1, .slice A1_2 l1_2.length c1_2, .slice A1_3 l1_3.length c1_3, .slice A1_4 l1_4.length c1_4, .slice A1_5 l1_5.length c1_5]) (t := 59) ?hr ?_; (case hd => rfl); (case hg => rfl); (case hr => exact z92_); intro gb490 hg w6 hbox hb; have BK490 := q_ (hbox); have GW490 := ge_ hg; have GE490 := ge_ hg; replace HB := hb_ hb; have NB489_490 := nl_ hg BK489; have NB490_489 := nr_ hg BK489; replace BK489 := rb_ BK489 hb; clear hb hbox hg; have hnb7 := NB489_490.out; have hnc7 := NB490_489.out; obtain ⟨hz_, hz_, hz_, hz_, hz_, hz_, hz_, hz_, hz_, hz_, hz_, hz_⟩ := cs6_ BK489.out) | ((with_reducible refine gate_callee (f := 43) rfl ?_); refine goesL_ (some 12) rfl rfl Try.func43 (by kernel_rfl) rfl #[.agg #[.bool a0_0, .slice A0_1 l0_1.length c0_1, .slice A0_2 l0_2.length c0_2, .slice A0_3 l0_3.length c0_3, .slice A0_4 l0_4.length c0_4, .slice A0_5 l0_5.length c0_5], .int .i64 1048576] rfl z0_ ?_; (with_reducible refine (laws_szMachine.calls k a0_0 _ _ l0_1 _ _ l0_2 _ _ l0_3 _ _ l0_4 _ _ l0_5 1048576 t491 _ ?side1 ?side2 ?side3 ?side4 ?side5 ?side6 ?side7 ?side8 ?side9 ?side10 A3.out).mono ?_); (case side1 => exact z90_); (case side2 => exact z115_); (case side3 => exact z93_); (case side4 => exact z121_); (case side5 => exact z94_); (case side6 => exact z122_); (case side7 => exact z91_); (case side8 => exact z119_); (case side9 => exact z100_); (case side10 => exact HC0_5.out); rintro e w9 ⟨rfl, hb⟩; refine ⟨_, rfl, ?_⟩; replace BK489 := rb_ BK489 hb; replace BK490 := rb_ BK490 hb; replace HB := hb_ hb; (try clear hb); (try clear hb2); (try clear hk); (try clear hi)))
 (try simp only [Act.put, List.setIfInBounds_toArray, List.set_cons_zero, List.set_cons_succ])
 have H := HC4.out
 clear HC4
 replace H := kd_ H; rcases H with ⟨c10b0, H⟩ | ⟨c10b0, H⟩
 ·(first | rw [c10b0] | rw [c10b1] | (simp only [i64_w, i32_w]; first | rw [c10b0] | rw [c10b1]) | rw [c10b2] | skip)
  obtain rfl := si_ H
  go_wp2
  go_ret
  exact ⟨z1_, cb_⟩
 ·(first | rw [c10b0] | rw [c10b1] | (simp only [i64_w, i32_w]; first | rw [c10b0] | rw [c10b1]) | rw [c10b2] | skip)
  replace H := bi_ H; obtain ⟨t492, A11, H⟩ := H
  have HC12 := q_ H
  clear H
  have hnb13 := NB490_489.out
  have hnc13 := NB489_490.out
  obtain ⟨hz_, hz_, hz_, hz_, hz_, hz_, hz_, hz_, hz_, hz_, hz_, hz_⟩ := cs6_ BK490.out
  go_upto_if 19 with (first | ((with_reducible refine gate_callee (f := 43) rfl ?_); refine goesL_ (some 17) rfl rfl Try.func43 (by kernel_rfl) rfl #[.agg #[.bool a1_0, .slice A1_1 l1_1.length c1_1, .slice A1_2 l1_2.length c1_2, .slice A1_3 l1_3.length c1_3, .slice A1_4 l1_4.length c1_4, .slice A1_5 l1_5.length c1_5], .int .i64 t491] rfl z0_ ?_; (with_reducible refine (laws_szMachine.calls k a1_0 _ _ l1_1 _ _ l1_2 _ _ l1_3 _ _ l1_4 _ _ l1_5 t491 t492 _ ?side1 ?side2 ?side3 ?side4 ?side5 ?side6 ?side7 ?side8 ?side9 ?side10 A11.out).mono ?_); (case side1 => exact z95_); (case side2 => exact HC1_1.out); (case side3 => exact z96_); (case side4 => exact HC1_2.out); (case side5 => exact z98_); (case side6 => exact HC1_3.out); (case side7 => exact z97_); (case side8 => exact HC1_4.out); (case side9 => exact z101_); (case side10 => exact HC1_5.out); rintro e w15 ⟨rfl, hb⟩; refine ⟨_, rfl, ?_⟩; replace BK489 := rb_ BK489 hb; replace BK490 := rb_ BK490 hb; replace HB := hb_ hb; (try clear hb); (try clear hb2); (try clear hk); (try clear hi)))
  (try simp only [Act.put, List.setIfInBounds_toArray, List.set_cons_zero, List.set_cons_succ])
  have H := HC12.out
  clear HC12
  replace H := kd_ H; rcases H with ⟨c16b0, H⟩ | ⟨c16b0, H⟩
  ·(first | rw [c16b0] | rw [c16b1] | (simp only [i64_w, i32_w]; first | rw [c16b0] | rw [c16b1]) | rw [c16b2] | skip)
   obtain rfl := si_ H
   go_wp2
   go_ret
   exact ⟨z1_, cb_⟩
  ·(first | rw [c16b0] | rw [c16b1] | (simp only [i64_w, i32_w]; first | rw [c16b0] | rw [c16b1]) | rw [c16b2] | skip)
   replace H := bi_ H; obtain ⟨⟨t493, t494, t497, t500, t503, t506⟩, A17, H⟩ := H
   (try dsimp only at H)
   replace H := bi_ H; obtain ⟨⟨t509, t510, t513, t516, t519, t522⟩, A18, H⟩ := H
   (try dsimp only at H)
   replace H := bi_ H; obtain ⟨t525, A19, H⟩ := H
   replace H := bi_ H; obtain ⟨⟨t526, t527, t530, t533, t536, t539⟩, A20, H⟩ := H
   (try dsimp only at H)
   replace H := bi_ H; obtain ⟨⟨t543, t544, t547, t550, t553, t556⟩, A21, H⟩ := H
   (try dsimp only at H)
   replace H := bi_ H; obtain ⟨t560, A22, H⟩ := H
   have HC23 := q_ H
   clear H
   try go_wp2
   replace BK489 := q_ (blk_drew BK489.out)
   replace BK490 := q_ (blk_drew BK490.out)
   replace HB := q_ (below_drew1 HB.out)
   refine start_ (n := 6) (S := fun w' => w'.cell? ⟨gb489, 0, none⟩ = some (.bool a0_0) ∧ w'.cell? ⟨gb489, 1, none⟩ = some (.slice A0_1 l0_1.length c0_1) ∧ w'.cell? ⟨gb489, 2, none⟩ = some (.slice A0_2 l0_2.length c0_2) ∧ w'.cell? ⟨gb489, 3, none⟩ = some (.slice A0_3 l0_3.length c0_3) ∧ w'.cell? ⟨gb489, 4, none⟩ = some (.slice A0_4 l0_4.length c0_4) ∧ w'.cell? ⟨gb489, 5, none⟩ = some (.slice A0_5 l0_5.length c0_5) ∧ w'.cell? ⟨gb490, 0, none⟩ = some (.bool a1_0) ∧ w'.cell? ⟨gb490, 1, none⟩ = some (.slice A1_1 l1_1.length c1_1) ∧ w'.cell? ⟨gb490, 2, none⟩ = some (.slice A1_2 l1_2.length c1_2) ∧ w'.cell? ⟨gb490, 3, none⟩ = some (.slice A1_3 l1_3.length c1_3) ∧ w'.cell? ⟨gb490, 4, none⟩ = some (.slice A1_4 l1_4.length c1_4) ∧ w'.cell? ⟨gb490, 5, none⟩ = some (.slice A1_5 l1_5.length c1_5)) (ds := []) (tf 0 6) (by kernel_rfl) rfl rfl ⟨(blk_cell BK489.out 0).trans rfl, (blk_cell BK489.out 1).trans rfl, (blk_cell BK489.out 2).trans rfl, (blk_cell BK489.out 3).trans rfl, (blk_cell BK489.out 4).trans rfl, (blk_cell BK489.out 5).trans rfl, (blk_cell BK490.out 0).trans rfl, (blk_cell BK490.out 1).trans rfl, (blk_cell BK490.out 2).trans rfl, (blk_cell BK490.out 3).trans rfl, (blk_cell BK490.out 4).trans rfl, (blk_cell BK490.out 5).trans rfl⟩ (fun hHeld => ?_)
   generalize w15.drew = w24 at BK489 BK490 HB hHeld ⊢
   refine take_ (i := 0) (N := some 20) (v := ?_) (a' := ?_) (tf 1 5) rfl rfl (by kernel_rfl) (fun _ _ _ h => h) (Or.inl ⟨by rfl, ?_⟩) hHeld ?_ ?_
   rotate_left
   ·rintro w' ⟨s0, s1, s2, s3, s4, s5, s6, s7, s8, s9, s10, s11⟩
    go_simp
    with_reducible rfl
   rotate_left
   ·simp only [Act.put, List.setIfInBounds_toArray, List.set_cons_zero, List.set_cons_succ, i64_w, i32_w]
    rfl
   refine take_ (i := 2) (N := some 22) (v := ?_) (a' := ?_) #[true, false, true, false, false, false] rfl rfl (by kernel_rfl) (fun _ _ _ h => h) (Or.inl ⟨by rfl, ?_⟩) hHeld ?_ ?_
   rotate_left
   ·rintro w' ⟨s0, s1, s2, s3, s4, s5, s6, s7, s8, s9, s10, s11⟩
    go_simp
    with_reducible rfl
   rotate_left
   ·simp only [Act.put, List.setIfInBounds_toArray, List.set_cons_zero, List.set_cons_succ, i64_w, i32_w]
    rfl
   refine one_ (i := 1) (N := some 21) (tf 3 3) rfl rfl (by kernel_rfl) (by decide) (fun K hK => ?_)
   refine goes_ Try.func45 (by kernel_rfl) rfl #[.agg #[.bool a0_0, .slice A0_1 l0_1.length c0_1, .slice A0_2 l0_2.length c0_2, .slice A0_3 l0_3.length c0_3, .slice A0_4 l0_4.length c0_4, .slice A0_5 l0_5.length c0_5]] (by rfl) rfl rfl z0_ ?_
   with_reducible refine (laws_toMachine.calls k a0_0 _ _ l0_1 _ _ l0_2 _ _ l0_3 _ _ l0_4 _ _ l0_5 t493 t494 t497 t500 t503 t506 _ ?side1 ?side2 ?side3 ?side4 ?side5 ?side6 ?side7 ?side8 ?side9 ?side10 A17.out).mono ?_
   (case side1 => exact z90_)
   (case side2 => exact z115_)
   (case side3 => exact z93_)
   (case side4 => exact z121_)
   (case side5 => exact z94_)
   (case side6 => exact z122_)
   (case side7 => exact z91_)
   (case side8 => exact z119_)
   (case side9 => exact z100_)
   (case side10 => exact HC0_5.out)
   rintro e w25 ⟨v495, v498, v501, v504, v507, rfl, ho0, ho1, ho2, ho3, ho4, hb⟩
   refine ⟨_, rfl, ?_⟩
   have HO496 := q_ (Kd.R_lower ho0 (below_size cb_))
   have HO499 := q_ (Kd.R_lower ho1 (below_size cb_))
   have HO502 := q_ (Kd.R_lower ho2 (below_size cb_))
   have HO505 := q_ (Kd.R_lower ho3 (below_size cb_))
   have HO508 := q_ (Kd.R_lower ho4 (below_size cb_))
   replace BK489 := rb_ BK489 hb
   replace BK490 := rb_ BK490 hb
   replace HB := hb_ hb
   (try clear hb)
   (try clear hb2)
   (try clear hk)
   (try clear hi)
   (try clear ho0)
   (try clear ho1)
   (try clear ho2)
   (try clear ho3)
   (try clear ho4)
   refine hK.out _ _ ⟨(blk_cell BK489.out 0).trans rfl, (blk_cell BK489.out 1).trans rfl, (blk_cell BK489.out 2).trans rfl, (blk_cell BK489.out 3).trans rfl, (blk_cell BK489.out 4).trans rfl, (blk_cell BK489.out 5).trans rfl, (blk_cell BK490.out 0).trans rfl, (blk_cell BK490.out 1).trans rfl, (blk_cell BK490.out 2).trans rfl, (blk_cell BK490.out 3).trans rfl, (blk_cell BK490.out 4).trans rfl, (blk_cell BK490.out 5).trans rfl⟩ (fun hHeld => ?_)
   clear hK K
   refine norm_ (a' := ?_) ?_ ?_
   rotate_left
   ·show Act.put _ (some 21) _ = _
    simp only [Act.put, List.setIfInBounds_toArray, List.set_cons_zero, List.set_cons_succ, i64_w, i32_w]
    rfl
   refine one_ (i := 3) (N := some 23) (tf 4 2) rfl rfl (by kernel_rfl) (by decide) (fun K hK => ?_)
   refine goes_ Try.func45 (by kernel_rfl) rfl #[.agg #[.bool a1_0, .slice A1_1 l1_1.length c1_1, .slice A1_2 l1_2.length c1_2, .slice A1_3 l1_3.length c1_3, .slice A1_4 l1_4.length c1_4, .slice A1_5 l1_5.length c1_5]] (by rfl) rfl rfl z0_ ?_
   with_reducible refine (laws_toMachine.calls k a1_0 _ _ l1_1 _ _ l1_2 _ _ l1_3 _ _ l1_4 _ _ l1_5 t509 t510 t513 t516 t519 t522 _ ?side1 ?side2 ?side3 ?side4 ?side5 ?side6 ?side7 ?side8 ?side9 ?side10 A18.out).mono ?_
   (case side1 => exact z95_)
   (case side2 => exact HC1_1.out)
   (case side3 => exact z96_)
   (case side4 => exact HC1_2.out)
   (case side5 => exact z98_)
   (case side6 => exact HC1_3.out)
   (case side7 => exact z97_)
   (case side8 => exact HC1_4.out)
   (case side9 => exact z101_)
   (case side10 => exact HC1_5.out)
   rintro e w26 ⟨v511, v514, v517, v520, v523, rfl, ho0, ho1, ho2, ho3, ho4, hb⟩
   refine ⟨_, rfl, ?_⟩
   have HO512 := q_ (Kd.R_lower (Kd.R_new' ho0 (Kd.R_lt z9_)) (below_size cb_))
   have HO515 := q_ (Kd.R_lower (Kd.R_new' ho1 (Kd.R_lt z10_)) (below_size cb_))
   have HO518 := q_ (Kd.R_lower (Kd.R_new' (Kd.R_new' (Kd.R_new' (Kd.R_new' ho2 (Kd.R_lt z9_)) (Kd.R_lt z10_)) (Kd.R_lt z17_)) (Kd.R_lt z11_)) (below_size cb_))
   replace HO496 := q_ (Kd.R_elder' z9_ (Kd.R_base ho0) hb)
   replace HO499 := q_ (Kd.R_elder' z10_ (Kd.R_base ho1) hb)
   replace HO502 := q_ (Kd.R_mono (Kd.R_told (Kd.R_told (Kd.R_told (Kd.R_told (Kd.R_old z17_ hb) (Kd.R_base ho0)) (Kd.R_base ho1)) (Kd.R_base ho2)) (Kd.R_base ho3)) (fun _ h_ => h_.1))
   have HO521 := q_ (Kd.R_lower (Kd.R_new' ho3 (Kd.R_lt z11_)) (below_size cb_))
   replace HO505 := q_ (Kd.R_elder' z11_ (Kd.R_base ho3) hb)
   have HO524 := q_ (Kd.R_lower (Kd.R_new' ho4 (Kd.R_lt z18_)) (below_size cb_))
   replace HO508 := q_ (Kd.R_elder' z18_ (Kd.R_base ho4) hb)
   replace BK489 := rb_ BK489 hb
   replace BK490 := rb_ BK490 hb
   replace HB := hb_ hb
   (try clear hb)
   (try clear hb2)
   (try clear hk)
   (try clear hi)
   (try clear ho0)
   (try clear ho1)
   (try clear ho2)
   (try clear ho3)
   (try clear ho4)
   obtain ⟨Ao27, co27, eo27⟩ := Kd.R_slice HO496.out
   (first | subst eo27 | (injection eo27 with f1_ f2_ f3_; have f4_ := f1_.symm; have f5_ := f3_.symm; clear f1_ f2_ f3_; subst f4_; subst f5_))
   obtain ⟨Ao28, co28, eo28⟩ := Kd.R_slice HO499.out
   (first | subst eo28 | (injection eo28 with f1_ f2_ f3_; have f4_ := f1_.symm; have f5_ := f3_.symm; clear f1_ f2_ f3_; subst f4_; subst f5_))
   obtain ⟨Ao29, co29, eo29⟩ := Kd.R_slice HO502.out
   (first | subst eo29 | (injection eo29 with f1_ f2_ f3_; have f4_ := f1_.symm; have f5_ := f3_.symm; clear f1_ f2_ f3_; subst f4_; subst f5_))
   obtain ⟨Ao30, co30, eo30⟩ := Kd.R_slice HO505.out
   (first | subst eo30 | (injection eo30 with f1_ f2_ f3_; have f4_ := f1_.symm; have f5_ := f3_.symm; clear f1_ f2_ f3_; subst f4_; subst f5_))
   obtain ⟨Ao31, co31, eo31⟩ := Kd.R_slice HO508.out
   (first | subst eo31 | (injection eo31 with f1_ f2_ f3_; have f4_ := f1_.symm; have f5_ := f3_.symm; clear f1_ f2_ f3_; subst f4_; subst f5_))
   obtain ⟨Ao32, co32, eo32⟩ := Kd.R_slice HO512.out
   (first | subst eo32 | (injection eo32 with f1_ f2_ f3_; have f4_ := f1_.symm; have f5_ := f3_.symm; clear f1_ f2_ f3_; subst f4_; subst f5_))
   obtain ⟨Ao33, co33, eo33⟩ := Kd.R_slice HO515.out
   (first | subst eo33 | (injection eo33 with f1_ f2_ f3_; have f4_ := f1_.symm; have f5_ := f3_.symm; clear f1_ f2_ f3_; subst f4_; subst f5_))
   obtain ⟨Ao34, co34, eo34⟩ := Kd.R_slice HO518.out
   (first | subst eo34 | (injection eo34 with f1_ f2_ f3_; have f4_ := f1_.symm; have f5_ := f3_.symm; clear f1_ f2_ f3_; subst f4_; subst f5_))
   obtain ⟨Ao35, co35, eo35⟩ := Kd.R_slice HO521.out
   (first | subst eo35 | (injection eo35 with f1_ f2_ f3_; have f4_ := f1_.symm; have f5_ := f3_.symm; clear f1_ f2_ f3_; subst f4_; subst f5_))
   obtain ⟨Ao36, co36, eo36⟩ := Kd.R_slice HO524.out
   (first | subst eo36 | (injection eo36 with f1_ f2_ f3_; have f4_ := f1_.symm; have f5_ := f3_.symm; clear f1_ f2_ f3_; subst f4_; subst f5_))
   refine hK.out _ _ ⟨(blk_cell BK489.out 0).trans rfl, (blk_cell BK489.out 1).trans rfl, (blk_cell BK489.out 2).trans rfl, (blk_cell BK489.out 3).trans rfl, (blk_cell BK489.out 4).trans rfl, (blk_cell BK489.out 5).trans rfl, (blk_cell BK490.out 0).trans rfl, (blk_cell BK490.out 1).trans rfl, (blk_cell BK490.out 2).trans rfl, (blk_cell BK490.out 3).trans rfl, (blk_cell BK490.out 4).trans rfl, (blk_cell BK490.out 5).trans rfl⟩ (fun hHeld => ?_)
   clear hK K
   refine norm_ (a' := ?_) ?_ ?_
   rotate_left
   ·show Act.put _ (some 23) _ = _
    simp only [Act.put, List.setIfInBounds_toArray, List.set_cons_zero, List.set_cons_succ, i64_w, i32_w]
    rfl
   refine one_ (i := 4) (N := some 24) (tf 5 1) rfl rfl (by kernel_rfl) (by decide) (fun K hK => ?_)
   refine goes_ Try.func44 (by kernel_rfl) rfl #[.agg #[.bool t493, .slice Ao27 t494.length co27, .slice Ao28 t497.length co28, .slice Ao29 t500.length co29, .slice Ao30 t503.length co30, .slice Ao31 t506.length co31], .agg #[.bool t509, .slice Ao32 t510.length co32, .slice Ao33 t513.length co33, .slice Ao34 t516.length co34, .slice Ao35 t519.length co35, .slice Ao36 t522.length co36]] (by rfl) rfl rfl z0_ ?_
   with_reducible refine (spec_MachineSame.calls k t493 _ _ t494 _ _ t497 _ _ t500 _ _ t503 _ _ t506 t509 _ _ t510 _ _ t513 _ _ t516 _ _ t519 _ _ t522 t525 _ ?side1 ?side2 ?side3 ?side4 ?side5 ?side6 ?side7 ?side8 ?side9 ?side10 ?side11 ?side12 ?side13 ?side14 ?side15 ?side16 ?side17 ?side18 ?side19 ?side20 A19.out).mono ?_
   (case side1 => repeat (first | exact (Kd.R_reads' HO496.out).2.2 | (with_reducible refine Kd.C_alloc ?_ _) | (with_reducible refine Kd.C_drewN ?_ _) | (with_reducible refine Kd.C_drew ?_)))
   (case side2 => exact (Kd.R_reads' HO496.out).2.1)
   (case side3 => repeat (first | exact (Kd.R_reads' HO499.out).2.2 | (with_reducible refine Kd.C_alloc ?_ _) | (with_reducible refine Kd.C_drewN ?_ _) | (with_reducible refine Kd.C_drew ?_)))
   (case side4 => exact (Kd.R_reads' HO499.out).2.1)
   (case side5 => repeat (first | exact (Kd.R_reads' HO502.out).2.2 | (with_reducible refine Kd.C_alloc ?_ _) | (with_reducible refine Kd.C_drewN ?_ _) | (with_reducible refine Kd.C_drew ?_)))
   (case side6 => exact (Kd.R_reads' HO502.out).2.1)
   (case side7 => repeat (first | exact (Kd.R_reads' HO505.out).2.2 | (with_reducible refine Kd.C_alloc ?_ _) | (with_reducible refine Kd.C_drewN ?_ _) | (with_reducible refine Kd.C_drew ?_)))
   (case side8 => exact (Kd.R_reads' HO505.out).2.1)
   (case side9 => repeat (first | exact (Kd.R_reads' HO508.out).2.2 | (with_reducible refine Kd.C_alloc ?_ _) | (with_reducible refine Kd.C_drewN ?_ _) | (with_reducible refine Kd.C_drew ?_)))
   (case side10 => exact (Kd.R_reads' HO508.out).2.1)
   (case side11 => repeat (first | exact (Kd.R_reads' HO512.out).2.2 | (with_reducible refine Kd.C_alloc ?_ _) | (with_reducible refine Kd.C_drewN ?_ _) | (with_reducible refine Kd.C_drew ?_)))
   (case side12 => exact (Kd.R_reads' HO512.out).2.1)
   (case side13 => repeat (first | exact (Kd.R_reads' HO515.out).2.2 | (with_reducible refine Kd.C_alloc ?_ _) | (with_reducible refine Kd.C_drewN ?_ _) | (with_reducible refine Kd.C_drew ?_)))
   (case side14 => exact (Kd.R_reads' HO515.out).2.1)
   (case side15 => repeat (first | exact (Kd.R_reads' HO518.out).2.2 | (with_reducible refine Kd.C_alloc ?_ _) | (with_reducible refine Kd.C_drewN ?_ _) | (with_reducible refine Kd.C_drew ?_)))
   (case side16 => exact (Kd.R_reads' HO518.out).2.1)
   (case side17 => repeat (first | exact (Kd.R_reads' HO521.out).2.2 | (with_reducible refine Kd.C_alloc ?_ _) | (with_reducible refine Kd.C_drewN ?_ _) | (with_reducible refine Kd.C_drew ?_)))
   (case side18 => exact (Kd.R_reads' HO521.out).2.1)
   (case side19 => repeat (first | exact (Kd.R_reads' HO524.out).2.2 | (with_reducible refine Kd.C_alloc ?_ _) | (with_reducible refine Kd.C_drewN ?_ _) | (with_reducible refine Kd.C_drew ?_)))
   (case side20 => exact (Kd.R_reads' HO524.out).2.1)
   rintro e w37 ⟨rfl, hb⟩
   refine ⟨_, rfl, ?_⟩
   replace HO496 := q_ (Kd.R_below z9_ hb)
   replace HO499 := q_ (Kd.R_below z10_ hb)
   replace HO502 := q_ (Kd.R_below z17_ hb)
   replace HO505 := q_ (Kd.R_below z11_ hb)
   replace HO508 := q_ (Kd.R_below z18_ hb)
   replace HO512 := q_ (Kd.R_below z14_ hb)
   replace HO515 := q_ (Kd.R_below z15_ hb)
   replace HO518 := q_ (Kd.R_below z25_ hb)
   replace HO521 := q_ (Kd.R_below z16_ hb)
   replace HO524 := q_ (Kd.R_below z26_ hb)
   replace BK489 := rb_ BK489 hb
   replace BK490 := rb_ BK490 hb
   replace HB := hb_ hb
   (try clear hb)
   (try clear hb2)
   (try clear hk)
   (try clear hi)
   refine hK.out _ _ ⟨(blk_cell BK489.out 0).trans rfl, (blk_cell BK489.out 1).trans rfl, (blk_cell BK489.out 2).trans rfl, (blk_cell BK489.out 3).trans rfl, (blk_cell BK489.out 4).trans rfl, (blk_cell BK489.out 5).trans rfl, (blk_cell BK490.out 0).trans rfl, (blk_cell BK490.out 1).trans rfl, (blk_cell BK490.out 2).trans rfl, (blk_cell BK490.out 3).trans rfl, (blk_cell BK490.out 4).trans rfl, (blk_cell BK490.out 5).trans rfl⟩ (fun hHeld => ?_)
   clear hK K
   refine norm_ (a' := ?_) ?_ ?_
   rotate_left
   ·show Act.put _ (some 24) _ = _
    simp only [Act.put, List.setIfInBounds_toArray, List.set_cons_zero, List.set_cons_succ, i64_w, i32_w]
    rfl
   refine pure_ (i := 5) (N := some 6) (v := ?_) (a' := ?_) (tf 6 0) rfl rfl (by kernel_rfl) (fun _ _ _ h => h) (Or.inl ⟨by rfl, ?_⟩) ?_ ?_
   rotate_left
   ·intro w'
    go_simp
    with_reducible rfl
   rotate_left
   ·simp only [Act.put, List.setIfInBounds_toArray, List.set_cons_zero, List.set_cons_succ, i64_w, i32_w]
    rfl
   refine done_ (by kernel_rfl) ?_
   have hnb38 := NB489_490.out
   have hnc38 := NB490_489.out
   obtain ⟨hz_, hz_, hz_, hz_, hz_, hz_, hz_, hz_, hz_, hz_, hz_, hz_⟩ := cs6_ BK489.out
   go_upto_if 34 with (first | ((with_reducible refine gate_callee (f := 45) rfl ?_); refine goesL_ (some 26) rfl rfl Try.func45 (by kernel_rfl) rfl #[.agg #[.bool a0_0, .slice A0_1 l0_1.length c0_1, .slice A0_2 l0_2.length c0_2, .slice A0_3 l0_3.length c0_3, .slice A0_4 l0_4.length c0_4, .slice A0_5 l0_5.length c0_5]] rfl z0_ ?_; (with_reducible refine (laws_toMachine.calls k a0_0 _ _ l0_1 _ _ l0_2 _ _ l0_3 _ _ l0_4 _ _ l0_5 t526 t527 t530 t533 t536 t539 _ ?side1 ?side2 ?side3 ?side4 ?side5 ?side6 ?side7 ?side8 ?side9 ?side10 A20.out).mono ?_); (case side1 => exact z90_); (case side2 => exact z115_); (case side3 => exact z93_); (case side4 => exact z121_); (case side5 => exact z94_); (case side6 => exact z122_); (case side7 => exact z91_); (case side8 => exact z119_); (case side9 => exact z100_); (case side10 => exact HC0_5.out); rintro e w40 ⟨v528, v531, v534, v537, v540, rfl, ho0, ho1, ho2, ho3, ho4, hb⟩; refine ⟨_, rfl, ?_⟩; have HO529 := q_ (Kd.R_lower (Kd.R_new' (Kd.R_new' ho0 (Kd.R_lt z9_)) (Kd.R_lt z14_)) (below_size cb_)); have HO532 := q_ (Kd.R_lower (Kd.R_new' (Kd.R_new' ho1 (Kd.R_lt z10_)) (Kd.R_lt z15_)) (below_size cb_)); have HO535 := q_ (Kd.R_lower (Kd.R_new' (Kd.R_new' (Kd.R_new' (Kd.R_new' (Kd.R_new' (Kd.R_new' (Kd.R_new' (Kd.R_new' ho2 (Kd.R_lt z9_)) (Kd.R_lt z10_)) (Kd.R_lt z17_)) (Kd.R_lt z11_)) (Kd.R_lt z14_)) (Kd.R_lt z15_)) (Kd.R_lt z25_)) (Kd.R_lt z16_)) (below_size cb_)); replace HO496 := q_ (Kd.R_elder' z9_ (Kd.R_base ho0) hb); replace HO499 := q_ (Kd.R_elder' z10_ (Kd.R_base ho1) hb); replace HO502 := q_ (Kd.R_mono (Kd.R_told (Kd.R_told (Kd.R_told (Kd.R_told (Kd.R_old z17_ hb) (Kd.R_base ho0)) (Kd.R_base ho1)) (Kd.R_base ho2)) (Kd.R_base ho3)) (fun _ h_ => h_.1)); replace HO512 := q_ (Kd.R_elder' z14_ (Kd.R_base ho0) hb); replace HO515 := q_ (Kd.R_elder' z15_ (Kd.R_base ho1) hb); replace HO518 := q_ (Kd.R_mono (Kd.R_told (Kd.R_told (Kd.R_told (Kd.R_told (Kd.R_old z25_ hb) (Kd.R_base ho0)) (Kd.R_base ho1)) (Kd.R_base ho2)) (Kd.R_base ho3)) (fun _ h_ => h_.1)); have HO538 := q_ (Kd.R_lower (Kd.R_new' (Kd.R_new' ho3 (Kd.R_lt z11_)) (Kd.R_lt z16_)) (below_size cb_)); replace HO505 := q_ (Kd.R_elder' z11_ (Kd.R_base ho3) hb); replace HO521 := q_ (Kd.R_elder' z16_ (Kd.R_base ho3) hb); have HO541 := q_ (Kd.R_lower (Kd.R_new' (Kd.R_new' ho4 (Kd.R_lt z18_)) (Kd.R_lt z26_)) (below_size cb_)); replace HO508 := q_ (Kd.R_elder' z18_ (Kd.R_base ho4) hb); replace HO524 := q_ (Kd.R_elder' z26_ (Kd.R_base ho4) hb); replace BK489 := rb_ BK489 hb; replace BK490 := rb_ BK490 hb; replace HB := hb_ hb; (try clear hb); (try clear hb2); (try clear hk); (try clear hi); (try clear ho0); (try clear ho1); (try clear ho2); (try clear ho3); (try clear ho4)) | ((with_reducible refine gate_dst (N := 7) rfl ?_); refine box_event ?hg (N := 7) ?hd (cs := #[.bool false, .slice none 0 0, .slice none 0 0, .slice none 0 0, .slice none 0 0, .slice none 0 0]) (t := 64) ?hr ?_; (case hd => rfl); (case hg => rfl); (case hr => exact z92_); intro gb542 hg w41 hbox hb; replace HO496 := q_ (Kd.R_below z9_ hb); replace HO499 := q_ (Kd.R_below z10_ hb); replace HO502 := q_ (Kd.R_below z17_ hb); replace HO505 := q_ (Kd.R_below z11_ hb); replace HO508 := q_ (Kd.R_below z18_ hb); replace HO512 := q_ (Kd.R_below z14_ hb); replace HO515 := q_ (Kd.R_below z15_ hb); replace HO518 := q_ (Kd.R_below z25_ hb); replace HO521 := q_ (Kd.R_below z16_ hb); replace HO524 := q_ (Kd.R_below z26_ hb); replace HO529 := q_ (Kd.R_below z27_ hb); replace HO532 := q_ (Kd.R_below z28_ hb); replace HO535 := q_ (Kd.R_below z35_ hb); replace HO538 := q_ (Kd.R_below z29_ hb); replace HO541 := q_ (Kd.R_below z36_ hb); have BK542 := q_ (hbox); have GW542 := ge_ hg; have GE542 := ge_ hg; replace HB := hb_ hb; have NB489_542 := nl_ hg BK489; have NB542_489 := nr_ hg BK489; replace BK489 := rb_ BK489 hb; have NB490_542 := nl_ hg BK490; have NB542_490 := nr_ hg BK490; replace BK490 := rb_ BK490 hb; clear hb hbox hg; have hnb42 := NB542_489.out; have hnc42 := NB489_542.out; have hnb43 := NB542_490.out; have hnc43 := NB490_542.out; obtain ⟨hz_, hz_, hz_, hz_, hz_, hz_, hz_, hz_, hz_, hz_, hz_, hz_⟩ := cs6_ BK542.out; obtain ⟨Ao45, co45, eo45⟩ := Kd.R_slice HO529.out; subst eo45; obtain ⟨Ao46, co46, eo46⟩ := Kd.R_slice HO532.out; subst eo46; obtain ⟨Ao47, co47, eo47⟩ := Kd.R_slice HO535.out; subst eo47; obtain ⟨Ao48, co48, eo48⟩ := Kd.R_slice HO538.out; subst eo48; obtain ⟨Ao49, co49, eo49⟩ := Kd.R_slice HO541.out; subst eo49; obtain ⟨hz_, hz_, hz_, hz_, hz_, hz_, hz_, hz_, hz_, hz_, hz_, hz_⟩ := cs6_ BK490.out) | ((with_reducible refine gate_callee (f := 45) rfl ?_); refine goesL_ (some 28) rfl rfl Try.func45 (by kernel_rfl) rfl #[.agg #[.bool a1_0, .slice A1_1 l1_1.length c1_1, .slice A1_2 l1_2.length c1_2, .slice A1_3 l1_3.length c1_3, .slice A1_4 l1_4.length c1_4, .slice A1_5 l1_5.length c1_5]] rfl z0_ ?_; (with_reducible refine (laws_toMachine.calls k a1_0 _ _ l1_1 _ _ l1_2 _ _ l1_3 _ _ l1_4 _ _ l1_5 t543 t544 t547 t550 t553 t556 _ ?side1 ?side2 ?side3 ?side4 ?side5 ?side6 ?side7 ?side8 ?side9 ?side10 A21.out).mono ?_); (case side1 => exact Kd.C_below HR1_1.out cb_); (case side2 => exact HC1_1.out); (case side3 => exact Kd.C_below HR1_2.out cb_); (case side4 => exact HC1_2.out); (case side5 => exact Kd.C_below HR1_3.out cb_); (case side6 => exact HC1_3.out); (case side7 => exact Kd.C_below HR1_4.out cb_); (case side8 => exact HC1_4.out); (case side9 => exact Kd.C_below HR1_5.out cb_); (case side10 => exact HC1_5.out); rintro e w51 ⟨v545, v548, v551, v554, v557, rfl, ho0, ho1, ho2, ho3, ho4, hb⟩; refine ⟨_, rfl, ?_⟩; have HO546 := q_ (Kd.R_lower (Kd.R_new' (Kd.R_new' (Kd.R_new' ho0 (Kd.R_lt (by (with_reducible repeat (first | apply Kd.R_alloc | apply Kd.R_drewN | apply Kd.R_drew)); exact (Kd.R_mono (Kd.R_far (p := ⟨gb542, 5, none⟩) (Kd.R_far (p := ⟨gb542, 4, none⟩) (Kd.R_far (p := ⟨gb542, 3, none⟩) (Kd.R_far (p := ⟨gb542, 2, none⟩) (Kd.R_far (p := ⟨gb542, 1, none⟩) (Kd.R_far (p := ⟨gb542, 0, none⟩) (Kd.R_types HO496.out BK542.out (by decide)) (fun _ hk => hk.2) (.bool t526)) (fun _ hk => hk.2) (.slice Ao45 t527.length co45)) (fun _ hk => hk.2) (.slice Ao46 t530.length co46)) (fun _ hk => hk.2) (.slice Ao47 t533.length co47)) (fun _ hk => hk.2) (.slice Ao48 t536.length co48)) (fun _ hk => hk.2) (.slice Ao49 t539.length co49)) (fun _ h_ => h_.1))))) (Kd.R_lt (by (with_reducible repeat (first | apply Kd.R_alloc | apply Kd.R_drewN | apply Kd.R_drew)); exact (Kd.R_mono (Kd.R_far (p := ⟨gb542, 5, none⟩) (Kd.R_far (p := ⟨gb542, 4, none⟩) (Kd.R_far (p := ⟨gb542, 3, none⟩) (Kd.R_far (p := ⟨gb542, 2, none⟩) (Kd.R_far (p := ⟨gb542, 1, none⟩) (Kd.R_far (p := ⟨gb542, 0, none⟩) (Kd.R_types HO512.out BK542.out (by decide)) (fun _ hk => hk.2) (.bool t526)) (fun _ hk => hk.2) (.slice Ao45 t527.length co45)) (fun _ hk => hk.2) (.slice Ao46 t530.length co46)) (fun _ hk => hk.2) (.slice Ao47 t533.length co47)) (fun _ hk => hk.2) (.slice Ao48 t536.length co48)) (fun _ hk => hk.2) (.slice Ao49 t539.length co49)) (fun _ h_ => h_.1))))) (Kd.R_lt (by (with_reducible repeat (first | apply Kd.R_alloc | apply Kd.R_drewN | apply Kd.R_drew)); exact (Kd.R_mono (Kd.R_far (p := ⟨gb542, 5, none⟩) (Kd.R_far (p := ⟨gb542, 4, none⟩) (Kd.R_far (p := ⟨gb542, 3, none⟩) (Kd.R_far (p := ⟨gb542, 2, none⟩) (Kd.R_far (p := ⟨gb542, 1, none⟩) (Kd.R_far (p := ⟨gb542, 0, none⟩) (Kd.R_types HO529.out BK542.out (by decide)) (fun _ hk => hk.2) (.bool t526)) (fun _ hk => hk.2) (.slice Ao45 t527.length co45)) (fun _ hk => hk.2) (.slice Ao46 t530.length co46)) (fun _ hk => hk.2) (.slice Ao47 t533.length co47)) (fun _ hk => hk.2) (.slice Ao48 t536.length co48)) (fun _ hk => hk.2) (.slice Ao49 t539.length co49)) (fun _ h_ => h_.1))))) (below_size cb_)); have HO549 := q_ (Kd.R_lower (Kd.R_new' (Kd.R_new' (Kd.R_new' ho1 (Kd.R_lt (by (with_reducible repeat (first | apply Kd.R_alloc | apply Kd.R_drewN | apply Kd.R_drew)); exact (Kd.R_mono (Kd.R_far (p := ⟨gb542, 5, none⟩) (Kd.R_far (p := ⟨gb542, 4, none⟩) (Kd.R_far (p := ⟨gb542, 3, none⟩) (Kd.R_far (p := ⟨gb542, 2, none⟩) (Kd.R_far (p := ⟨gb542, 1, none⟩) (Kd.R_far (p := ⟨gb542, 0, none⟩) (Kd.R_types HO499.out BK542.out (by decide)) (fun _ hk => hk.2) (.bool t526)) (fun _ hk => hk.2) (.slice Ao45 t527.length co45)) (fun _ hk => hk.2) (.slice Ao46 t530.length co46)) (fun _ hk => hk.2) (.slice Ao47 t533.length co47)) (fun _ hk => hk.2) (.slice Ao48 t536.length co48)) (fun _ hk => hk.2) (.slice Ao49 t539.length co49)) (fun _ h_ => h_.1))))) (Kd.R_lt (by (with_reducible repeat (first | apply Kd.R_alloc | apply Kd.R_drewN | apply Kd.R_drew)); exact (Kd.R_mono (Kd.R_far (p := ⟨gb542, 5, none⟩) (Kd.R_far (p := ⟨gb542, 4, none⟩) (Kd.R_far (p := ⟨gb542, 3, none⟩) (Kd.R_far (p := ⟨gb542, 2, none⟩) (Kd.R_far (p := ⟨gb542, 1, none⟩) (Kd.R_far (p := ⟨gb542, 0, none⟩) (Kd.R_types HO515.out BK542.out (by decide)) (fun _ hk => hk.2) (.bool t526)) (fun _ hk => hk.2) (.slice Ao45 t527.length co45)) (fun _ hk => hk.2) (.slice Ao46 t530.length co46)) (fun _ hk => hk.2) (.slice Ao47 t533.length co47)) (fun _ hk => hk.2) (.slice Ao48 t536.length co48)) (fun _ hk => hk.2) (.slice Ao49 t539.length co49)) (fun _ h_ => h_.1))))) (Kd.R_lt (by (with_reducible repeat (first | apply Kd.R_alloc | apply Kd.R_drewN | apply Kd.R_drew)); exact (Kd.R_mono (Kd.R_far (p := ⟨gb542, 5, none⟩) (Kd.R_far (p := ⟨gb542, 4, none⟩) (Kd.R_far (p := ⟨gb542, 3, none⟩) (Kd.R_far (p := ⟨gb542, 2, none⟩) (Kd.R_far (p := ⟨gb542, 1, none⟩) (Kd.R_far (p := ⟨gb542, 0, none⟩) (Kd.R_types HO532.out BK542.out (by decide)) (fun _ hk => hk.2) (.bool t526)) (fun _ hk => hk.2) (.slice Ao45 t527.length co45)) (fun _ hk => hk.2) (.slice Ao46 t530.length co46)) (fun _ hk => hk.2) (.slice Ao47 t533.length co47)) (fun _ hk => hk.2) (.slice Ao48 t536.length co48)) (fun _ hk => hk.2) (.slice Ao49 t539.length co49)) (fun _ h_ => h_.1))))) (below_size cb_)); have HO552 := q_ (Kd.R_lower (Kd.R_new' (Kd.R_new' (Kd.R_new' (Kd.R_new' (Kd.R_new' (Kd.R_new' (Kd.R_new' (Kd.R_new' (Kd.R_new' (Kd.R_new' (Kd.R_new' (Kd.R_new' ho2 (Kd.R_lt (by (with_reducible repeat (first | apply Kd.R_alloc | apply Kd.R_drewN | apply Kd.R_drew)); exact (Kd.R_mono (Kd.R_far (p := ⟨gb542, 5, none⟩) (Kd.R_far (p := ⟨gb542, 4, none⟩) (Kd.R_far (p := ⟨gb542, 3, none⟩) (Kd.R_far (p := ⟨gb542, 2, none⟩) (Kd.R_far (p := ⟨gb542, 1, none⟩) (Kd.R_far (p := ⟨gb542, 0, none⟩) (Kd.R_types HO496.out BK542.out (by decide)) (fun _ hk => hk.2) (.bool t526)) (fun _ hk => hk.2) (.slice Ao45 t527.length co45)) (fun _ hk => hk.2) (.slice Ao46 t530.length co46)) (fun _ hk => hk.2) (.slice Ao47 t533.length co47)) (fun _ hk => hk.2) (.slice Ao48 t536.length co48)) (fun _ hk => hk.2) (.slice Ao49 t539.length co49)) (fun _ h_ => h_.1))))) (Kd.R_lt (by (with_reducible repeat (first | apply Kd.R_alloc | apply Kd.R_drewN | apply Kd.R_drew)); exact (Kd.R_mono (Kd.R_far (p := ⟨gb542, 5, none⟩) (Kd.R_far (p := ⟨gb542, 4, none⟩) (Kd.R_far (p := ⟨gb542, 3, none⟩) (Kd.R_far (p := ⟨gb542, 2, none⟩) (Kd.R_far (p := ⟨gb542, 1, none⟩) (Kd.R_far (p := ⟨gb542, 0, none⟩) (Kd.R_types HO499.out BK542.out (by decide)) (fun _ hk => hk.2) (.bool t526)) (fun _ hk => hk.2) (.slice Ao45 t527.length co45)) (fun _ hk => hk.2) (.slice Ao46 t530.length co46)) (fun _ hk => hk.2) (.slice Ao47 t533.length co47)) (fun _ hk => hk.2) (.slice Ao48 t536.length co48)) (fun _ hk => hk.2) (.slice Ao49 t539.length co49)) (fun _ h_ => h_.1))))) (Kd.R_lt (by (with_reducible repeat (first | apply Kd.R_alloc | apply Kd.R_drewN | apply Kd.R_drew)); exact (Kd.R_mono (Kd.R_far (p := ⟨gb542, 5, none⟩) (Kd.R_far (p := ⟨gb542, 4, none⟩) (Kd.R_far (p := ⟨gb542, 3, none⟩) (Kd.R_far (p := ⟨gb542, 2, none⟩) (Kd.R_far (p := ⟨gb542, 1, none⟩) (Kd.R_far (p := ⟨gb542, 0, none⟩) (Kd.R_types HO502.out BK542.out (by decide)) (fun _ hk => hk.2) (.bool t526)) (fun _ hk => hk.2) (.slice Ao45 t527.length co45)) (fun _ hk => hk.2) (.slice Ao46 t530.length co46)) (fun _ hk => hk.2) (.slice Ao47 t533.length co47)) (fun _ hk => hk.2) (.slice Ao48 t536.length co48)) (fun _ hk => hk.2) (.slice Ao49 t539.length co49)) (fun _ h_ => h_.1))))) (Kd.R_lt (by (with_reducible repeat (first | apply Kd.R_alloc | apply Kd.R_drewN | apply Kd.R_drew)); exact (Kd.R_mono (Kd.R_far (p := ⟨gb542, 5, none⟩) (Kd.R_far (p := ⟨gb542, 4, none⟩) (Kd.R_far (p := ⟨gb542, 3, none⟩) (Kd.R_far (p := ⟨gb542, 2, none⟩) (Kd.R_far (p := ⟨gb542, 1, none⟩) (Kd.R_far (p := ⟨gb542, 0, none⟩) (Kd.R_types HO505.out BK542.out (by decide)) (fun _ hk => hk.2) (.bool t526)) (fun _ hk => hk.2) (.slice Ao45 t527.length co45)) (fun _ hk => hk.2) (.slice Ao46 t530.length co46)) (fun _ hk => hk.2) (.slice Ao47 t533.length co47)) (fun _ hk => hk.2) (.slice Ao48 t536.length co48)) (fun _ hk => hk.2) (.slice Ao49 t539.length co49)) (fun _ h_ => h_.1))))) (Kd.R_lt (by (with_reducible repeat (first | apply Kd.R_alloc | apply Kd.R_drewN | apply Kd.R_drew)); exact (Kd.R_mono (Kd.R_far (p := ⟨gb542, 5, none⟩) (Kd.R_far (p := ⟨gb542, 4, none⟩) (Kd.R_far (p := ⟨gb542, 3, none⟩) (Kd.R_far (p := ⟨gb542, 2, none⟩) (Kd.R_far (p := ⟨gb542, 1, none⟩) (Kd.R_far (p := ⟨gb542, 0, none⟩) (Kd.R_types HO512.out BK542.out (by decide)) (fun _ hk => hk.2) (.bool t526)) (fun _ hk => hk.2) (.slice Ao45 t527.length co45)) (fun _ hk => hk.2) (.slice Ao46 t530.length co46)) (fun _ hk => hk.2) (.slice Ao47 t533.length co47)) (fun _ hk => hk.2) (.slice Ao48 t536.length co48)) (fun _ hk => hk.2) (.slice Ao49 t539.length co49)) (fun _ h_ => h_.1))))) (Kd.R_lt (by (with_reducible repeat (first | apply Kd.R_alloc | apply Kd.R_drewN | apply Kd.R_drew)); exact (Kd.R_mono (Kd.R_far (p := ⟨gb542, 5, none⟩) (Kd.R_far (p := ⟨gb542, 4, none⟩) (Kd.R_far (p := ⟨gb542, 3, none⟩) (Kd.R_far (p := ⟨gb542, 2, none⟩) (Kd.R_far (p := ⟨gb542, 1, none⟩) (Kd.R_far (p := ⟨gb542, 0, none⟩) (Kd.R_types HO515.out BK542.out (by decide)) (fun _ hk => hk.2) (.bool t526)) (fun _ hk => hk.2) (.slice Ao45 t527.length co45)) (fun _ hk => hk.2) (.slice Ao46 t530.length co46)) (fun _ hk => hk.2) (.slice Ao47 t533.length co47)) (fun _ hk => hk.2) (.slice Ao48 t536.length co48)) (fun _ hk => hk.2) (.slice Ao49 t539.length co49)) (fun _ h_ => h_.1))))) (Kd.R_lt (by (with_reducible repeat (first | apply Kd.R_alloc | apply Kd.R_drewN | apply Kd.R_drew)); exact (Kd.R_mono (Kd.R_far (p := ⟨gb542, 5, none⟩) (Kd.R_far (p := ⟨gb542, 4, none⟩) (Kd.R_far (p := ⟨gb542, 3, none⟩) (Kd.R_far (p := ⟨gb542, 2, none⟩) (Kd.R_far (p := ⟨gb542, 1, none⟩) (Kd.R_far (p := ⟨gb542, 0, none⟩) (Kd.R_types HO518.out BK542.out (by decide)) (fun _ hk => hk.2) (.bool t526)) (fun _ hk => hk.2) (.slice Ao45 t527.length co45)) (fun _ hk => hk.2) (.slice Ao46 t530.length co46)) (fun _ hk => hk.2) (.slice Ao47 t533.length co47)) (fun _ hk => hk.2) (.slice Ao48 t536.length co48)) (fun _ hk => hk.2) (.slice Ao49 t539.length co49)) (fun _ h_ => h_.1))))) (Kd.R_lt (by (with_reducible repeat (first | apply Kd.R_alloc | apply Kd.R_drewN | apply Kd.R_drew)); exact (Kd.R_mono (Kd.R_far (p := ⟨gb542, 5, none⟩) (Kd.R_far (p := ⟨gb542, 4, none⟩) (Kd.R_far (p := ⟨gb542, 3, none⟩) (Kd.R_far (p := ⟨gb542, 2, none⟩) (Kd.R_far (p := ⟨gb542, 1, none⟩) (Kd.R_far (p := ⟨gb542, 0, none⟩) (Kd.R_types HO521.out BK542.out (by decide)) (fun _ hk => hk.2) (.bool t526)) (fun _ hk => hk.2) (.slice Ao45 t527.length co45)) (fun _ hk => hk.2) (.slice Ao46 t530.length co46)) (fun _ hk => hk.2) (.slice Ao47 t533.length co47)) (fun _ hk => hk.2) (.slice Ao48 t536.length co48)) (fun _ hk => hk.2) (.slice Ao49 t539.length co49)) (fun _ h_ => h_.1))))) (Kd.R_lt (by (with_reducible repeat (first | apply Kd.R_alloc | apply Kd.R_drewN | apply Kd.R_drew)); exact (Kd.R_mono (Kd.R_far (p := ⟨gb542, 5, none⟩) (Kd.R_far (p := ⟨gb542, 4, none⟩) (Kd.R_far (p := ⟨gb542, 3, none⟩) (Kd.R_far (p := ⟨gb542, 2, none⟩) (Kd.R_far (p := ⟨gb542, 1, none⟩) (Kd.R_far (p := ⟨gb542, 0, none⟩) (Kd.R_types HO529.out BK542.out (by decide)) (fun _ hk => hk.2) (.bool t526)) (fun _ hk => hk.2) (.slice Ao45 t527.length co45)) (fun _ hk => hk.2) (.slice Ao46 t530.length co46)) (fun _ hk => hk.2) (.slice Ao47 t533.length co47)) (fun _ hk => hk.2) (.slice Ao48 t536.length co48)) (fun _ hk => hk.2) (.slice Ao49 t539.length co49)) (fun _ h_ => h_.1))))) (Kd.R_lt (by (with_reducible repeat (first | apply Kd.R_alloc | apply Kd.R_drewN | apply Kd.R_drew)); exact (Kd.R_mono (Kd.R_far (p := ⟨gb542, 5, none⟩) (Kd.R_far (p := ⟨gb542, 4, none⟩) (Kd.R_far (p := ⟨gb542, 3, none⟩) (Kd.R_far (p := ⟨gb542, 2, none⟩) (Kd.R_far (p := ⟨gb542, 1, none⟩) (Kd.R_far (p := ⟨gb542, 0, none⟩) (Kd.R_types HO532.out BK542.out (by decide)) (fun _ hk => hk.2) (.bool t526)) (fun _ hk => hk.2) (.slice Ao45 t527.length co45)) (fun _ hk => hk.2) (.slice Ao46 t530.length co46)) (fun _ hk => hk.2) (.slice Ao47 t533.length co47)) (fun _ hk => hk.2) (.slice Ao48 t536.length co48)) (fun _ hk => hk.2) (.slice Ao49 t539.length co49)) (fun _ h_ => h_.1))))) (Kd.R_lt (by (with_reducible repeat (first | apply Kd.R_alloc | apply Kd.R_drewN | apply Kd.R_drew)); exact (Kd.R_mono (Kd.R_far (p := ⟨gb542, 5, none⟩) (Kd.R_far (p := ⟨gb542, 4, none⟩) (Kd.R_far (p := ⟨gb542, 3, none⟩) (Kd.R_far (p := ⟨gb542, 2, none⟩) (Kd.R_far (p := ⟨gb542, 1, none⟩) (Kd.R_far (p := ⟨gb542, 0, none⟩) (Kd.R_types HO535.out BK542.out (by decide)) (fun _ hk => hk.2) (.bool t526)) (fun _ hk => hk.2) (.slice Ao45 t527.length co45)) (fun _ hk => hk.2) (.slice Ao46 t530.length co46)) (fun _ hk => hk.2) (.slice Ao47 t533.length co47)) (fun _ hk => hk.2) (.slice Ao48 t536.length co48)) (fun _ hk => hk.2) (.slice Ao49 t539.length co49)) (fun _ h_ => h_.1))))) (Kd.R_lt (by (with_reducible repeat (first | apply Kd.R_alloc | apply Kd.R_drewN | apply Kd.R_drew)); exact (Kd.R_mono (Kd.R_far (p := ⟨gb542, 5, none⟩) (Kd.R_far (p := ⟨gb542, 4, none⟩) (Kd.R_far (p := ⟨gb542, 3, none⟩) (Kd.R_far (p := ⟨gb542, 2, none⟩) (Kd.R_far (p := ⟨gb542, 1, none⟩) (Kd.R_far (p := ⟨gb542, 0, none⟩) (Kd.R_types HO538.out BK542.out (by decide)) (fun _ hk => hk.2) (.bool t526)) (fun _ hk => hk.2) (.slice Ao45 t527.length co45)) (fun _ hk => hk.2) (.slice Ao46 t530.length co46)) (fun _ hk => hk.2) (.slice Ao47 t533.length co47)) (fun _ hk => hk.2) (.slice Ao48 t536.length co48)) (fun _ hk => hk.2) (.slice Ao49 t539.length co49)) (fun _ h_ => h_.1))))) (below_size cb_)); replace HO496 := q_ (Kd.R_elder' (by (with_reducible repeat (first | apply Kd.R_alloc | apply Kd.R_drewN | apply Kd.R_drew)); exact (Kd.R_mono (Kd.R_far (p := ⟨gb542, 5, none⟩) (Kd.R_far (p := ⟨gb542, 4, none⟩) (Kd.R_far (p := ⟨gb542, 3, none⟩) (Kd.R_far (p := ⟨gb542, 2, none⟩) (Kd.R_far (p := ⟨gb542, 1, none⟩) (Kd.R_far (p := ⟨gb542, 0, none⟩) (Kd.R_types HO496.out BK542.out (by decide)) (fun _ hk => hk.2) (.bool t526)) (fun _ hk => hk.2) (.slice Ao45 t527.length co45)) (fun _ hk => hk.2) (.slice Ao46 t530.length co46)) (fun _ hk => hk.2) (.slice Ao47 t533.length co47)) (fun _ hk => hk.2) (.slice Ao48 t536.length co48)) (fun _ hk => hk.2) (.slice Ao49 t539.length co49)) (fun _ h_ => h_.1))) (Kd.R_base ho0) hb); replace HO499 := q_ (Kd.R_elder' (by (with_reducible repeat (first | apply Kd.R_alloc | apply Kd.R_drewN | apply Kd.R_drew)); exact (Kd.R_mono (Kd.R_far (p := ⟨gb542, 5, none⟩) (Kd.R_far (p := ⟨gb542, 4, none⟩) (Kd.R_far (p := ⟨gb542, 3, none⟩) (Kd.R_far (p := ⟨gb542, 2, none⟩) (Kd.R_far (p := ⟨gb542, 1, none⟩) (Kd.R_far (p := ⟨gb542, 0, none⟩) (Kd.R_types HO499.out BK542.out (by decide)) (fun _ hk => hk.2) (.bool t526)) (fun _ hk => hk.2) (.slice Ao45 t527.length co45)) (fun _ hk => hk.2) (.slice Ao46 t530.length co46)) (fun _ hk => hk.2) (.slice Ao47 t533.length co47)) (fun _ hk => hk.2) (.slice Ao48 t536.length co48)) (fun _ hk => hk.2) (.slice Ao49 t539.length co49)) (fun _ h_ => h_.1))) (Kd.R_base ho1) hb); replace HO502 := q_ (Kd.R_mono (Kd.R_told (Kd.R_told (Kd.R_told (Kd.R_told (Kd.R_old (by (with_reducible repeat (first | apply Kd.R_alloc | apply Kd.R_drewN | apply Kd.R_drew)); exact (Kd.R_mono (Kd.R_far (p := ⟨gb542, 5, none⟩) (Kd.R_far (p := ⟨gb542, 4, none⟩) (Kd.R_far (p := ⟨gb542, 3, none⟩) (Kd.R_far (p := ⟨gb542, 2, none⟩) (Kd.R_far (p := ⟨gb542, 1, none⟩) (Kd.R_far (p := ⟨gb542, 0, none⟩) (Kd.R_types HO502.out BK542.out (by decide)) (fun _ hk => hk.2) (.bool t526)) (fun _ hk => hk.2) (.slice Ao45 t527.length co45)) (fun _ hk => hk.2) (.slice Ao46 t530.length co46)) (fun _ hk => hk.2) (.slice Ao47 t533.length co47)) (fun _ hk => hk.2) (.slice Ao48 t536.length co48)) (fun _ hk => hk.2) (.slice Ao49 t539.length co49)) (fun _ h_ => h_.1))) hb) (Kd.R_base ho0)) (Kd.R_base ho1)) (Kd.R_base ho2)) (Kd.R_base ho3)) (fun _ h_ => h_.1)); replace HO512 := q_ (Kd.R_elder' (by (with_reducible repeat (first | apply Kd.R_alloc | apply Kd.R_drewN | apply Kd.R_drew)); exact (Kd.R_mono (Kd.R_far (p := ⟨gb542, 5, none⟩) (Kd.R_far (p := ⟨gb542, 4, none⟩) (Kd.R_far (p := ⟨gb542, 3, none⟩) (Kd.R_far (p := ⟨gb542, 2, none⟩) (Kd.R_far (p := ⟨gb542, 1, none⟩) (Kd.R_far (p := ⟨gb542, 0, none⟩) (Kd.R_types HO512.out BK542.out (by decide)) (fun _ hk => hk.2) (.bool t526)) (fun _ hk => hk.2) (.slice Ao45 t527.length co45)) (fun _ hk => hk.2) (.slice Ao46 t530.length co46)) (fun _ hk => hk.2) (.slice Ao47 t533.length co47)) (fun _ hk => hk.2) (.slice Ao48 t536.length co48)) (fun _ hk => hk.2) (.slice Ao49 t539.length co49)) (fun _ h_ => h_.1))) (Kd.R_base ho0) hb); replace HO515 := q_ (Kd.R_elder' (by (with_reducible repeat (first | apply Kd.R_alloc | apply Kd.R_drewN | apply Kd.R_drew)); exact (Kd.R_mono (Kd.R_far (p := ⟨gb542, 5, none⟩) (Kd.R_far (p := ⟨gb542, 4, none⟩) (Kd.R_far (p := ⟨gb542, 3, none⟩) (Kd.R_far (p := ⟨gb542, 2, none⟩) (Kd.R_far (p := ⟨gb542, 1, none⟩) (Kd.R_far (p := ⟨gb542, 0, none⟩) (Kd.R_types HO515.out BK542.out (by decide)) (fun _ hk => hk.2) (.bool t526)) (fun _ hk => hk.2) (.slice Ao45 t527.length co45)) (fun _ hk => hk.2) (.slice Ao46 t530.length co46)) (fun _ hk => hk.2) (.slice Ao47 t533.length co47)) (fun _ hk => hk.2) (.slice Ao48 t536.length co48)) (fun _ hk => hk.2) (.slice Ao49 t539.length co49)) (fun _ h_ => h_.1))) (Kd.R_base ho1) hb); replace HO518 := q_ (Kd.R_mono (Kd.R_told (Kd.R_told (Kd.R_told (Kd.R_told (Kd.R_old (by (with_reducible repeat (first | apply Kd.R_alloc | apply Kd.R_drewN | apply Kd.R_drew)); exact (Kd.R_mono (Kd.R_far (p := ⟨gb542, 5, none⟩) (Kd.R_far (p := ⟨gb542, 4, none⟩) (Kd.R_far (p := ⟨gb542, 3, none⟩) (Kd.R_far (p := ⟨gb542, 2, none⟩) (Kd.R_far (p := ⟨gb542, 1, none⟩) (Kd.R_far (p := ⟨gb542, 0, none⟩) (Kd.R_types HO518.out BK542.out (by decide)) (fun _ hk => hk.2) (.bool t526)) (fun _ hk => hk.2) (.slice Ao45 t527.length co45)) (fun _ hk => hk.2) (.slice Ao46 t530.length co46)) (fun _ hk => hk.2) (.slice Ao47 t533.length co47)) (fun _ hk => hk.2) (.slice Ao48 t536.length co48)) (fun _ hk => hk.2) (.slice Ao49 t539.length co49)) (fun _ h_ => h_.1))) hb) (Kd.R_base ho0)) (Kd.R_base ho1)) (Kd.R_base ho2)) (Kd.R_base ho3)) (fun _ h_ => h_.1)); replace HO529 := q_ (Kd.R_elder' (by (with_reducible repeat (first | apply Kd.R_alloc | apply Kd.R_drewN | apply Kd.R_drew)); exact (Kd.R_mono (Kd.R_far (p := ⟨gb542, 5, none⟩) (Kd.R_far (p := ⟨gb542, 4, none⟩) (Kd.R_far (p := ⟨gb542, 3, none⟩) (Kd.R_far (p := ⟨gb542, 2, none⟩) (Kd.R_far (p := ⟨gb542, 1, none⟩) (Kd.R_far (p := ⟨gb542, 0, none⟩) (Kd.R_types HO529.out BK542.out (by decide)) (fun _ hk => hk.2) (.bool t526)) (fun _ hk => hk.2) (.slice Ao45 t527.length co45)) (fun _ hk => hk.2) (.slice Ao46 t530.length co46)) (fun _ hk => hk.2) (.slice Ao47 t533.length co47)) (fun _ hk => hk.2) (.slice Ao48 t536.length co48)) (fun _ hk => hk.2) (.slice Ao49 t539.length co49)) (fun _ h_ => h_.1))) (Kd.R_base ho0) hb); replace HO532 := q_ (Kd.R_elder' (by (with_reducible repeat (first | apply Kd.R_alloc | apply Kd.R_drewN | apply Kd.R_drew)); exact (Kd.R_mono (Kd.R_far (p := ⟨gb542, 5, none⟩) (Kd.R_far (p := ⟨gb542, 4, none⟩) (Kd.R_far (p := ⟨gb542, 3, none⟩) (Kd.R_far (p := ⟨gb542, 2, none⟩) (Kd.R_far (p := ⟨gb542, 1, none⟩) (Kd.R_far (p := ⟨gb542, 0, none⟩) (Kd.R_types HO532.out BK542.out (by decide)) (fun _ hk => hk.2) (.bool t526)) (fun _ hk => hk.2) (.slice Ao45 t527.length co45)) (fun _ hk => hk.2) (.slice Ao46 t530.length co46)) (fun _ hk => hk.2) (.slice Ao47 t533.length co47)) (fun _ hk => hk.2) (.slice Ao48 t536.length co48)) (fun _ hk => hk.2) (.slice Ao49 t539.length co49)) (fun _ h_ => h_.1))) (Kd.R_base ho1) hb); replace HO535 := q_ (Kd.R_mono (Kd.R_told (Kd.R_told (Kd.R_told (Kd.R_told (Kd.R_old (by (with_reducible repeat (first | apply Kd.R_alloc | apply Kd.R_drewN | apply Kd.R_drew)); exact (Kd.R_mono (Kd.R_far (p := ⟨gb542, 5, none⟩) (Kd.R_far (p := ⟨gb542, 4, none⟩) (Kd.R_far (p := ⟨gb542, 3, none⟩) (Kd.R_far (p := ⟨gb542, 2, none⟩) (Kd.R_far (p := ⟨gb542, 1, none⟩) (Kd.R_far (p := ⟨gb542, 0, none⟩) (Kd.R_types HO535.out BK542.out (by decide)) (fun _ hk => hk.2) (.bool t526)) (fun _ hk => hk.2) (.slice Ao45 t527.length co45)) (fun _ hk => hk.2) (.slice Ao46 t530.length co46)) (fun _ hk => hk.2) (.slice Ao47 t533.length co47)) (fun _ hk => hk.2) (.slice Ao48 t536.length co48)) (fun _ hk => hk.2) (.slice Ao49 t539.length co49)) (fun _ h_ => h_.1))) hb) (Kd.R_base ho0)) (Kd.R_base ho1)) (Kd.R_base ho2)) (Kd.R_base ho3)) (fun _ h_ => h_.1)); have HO555 := q_ (Kd.R_lower (Kd.R_new' (Kd.R_new' (Kd.R_new' ho3 (Kd.R_lt (by (with_reducible repeat (first | apply Kd.R_alloc | apply Kd.R_drewN | apply Kd.R_drew)); exact (Kd.R_mono (Kd.R_far (p := ⟨gb542, 5, none⟩) (Kd.R_far (p := ⟨gb542, 4, none⟩) (Kd.R_far (p := ⟨gb542, 3, none⟩) (Kd.R_far (p := ⟨gb542, 2, none⟩) (Kd.R_far (p := ⟨gb542, 1, none⟩) (Kd.R_far (p := ⟨gb542, 0, none⟩) (Kd.R_types HO505.out BK542.out (by decide)) (fun _ hk => hk.2) (.bool t526)) (fun _ hk => hk.2) (.slice Ao45 t527.length co45)) (fun _ hk => hk.2) (.slice Ao46 t530.length co46)) (fun _ hk => hk.2) (.slice Ao47 t533.length co47)) (fun _ hk => hk.2) (.slice Ao48 t536.length co48)) (fun _ hk => hk.2) (.slice Ao49 t539.length co49)) (fun _ h_ => h_.1))))) (Kd.R_lt (by (with_reducible repeat (first | apply Kd.R_alloc | apply Kd.R_drewN | apply Kd.R_drew)); exact (Kd.R_mono (Kd.R_far (p := ⟨gb542, 5, none⟩) (Kd.R_far (p := ⟨gb542, 4, none⟩) (Kd.R_far (p := ⟨gb542, 3, none⟩) (Kd.R_far (p := ⟨gb542, 2, none⟩) (Kd.R_far (p := ⟨gb542, 1, none⟩) (Kd.R_far (p := ⟨gb542, 0, none⟩) (Kd.R_types HO521.out BK542.out (by decide)) (fun _ hk => hk.2) (.bool t526)) (fun _ hk => hk.2) (.slice Ao45 t527.length co45)) (fun _ hk => hk.2) (.slice Ao46 t530.length co46)) (fun _ hk => hk.2) (.slice Ao47 t533.length co47)) (fun _ hk => hk.2) (.slice Ao48 t536.length co48)) (fun _ hk => hk.2) (.slice Ao49 t539.length co49)) (fun _ h_ => h_.1))))) (Kd.R_lt (by (with_reducible repeat (first | apply Kd.R_alloc | apply Kd.R_drewN | apply Kd.R_drew)); exact (Kd.R_mono (Kd.R_far (p := ⟨gb542, 5, none⟩) (Kd.R_far (p := ⟨gb542, 4, none⟩) (Kd.R_far (p := ⟨gb542, 3, none⟩) (Kd.R_far (p := ⟨gb542, 2, none⟩) (Kd.R_far (p := ⟨gb542, 1, none⟩) (Kd.R_far (p := ⟨gb542, 0, none⟩) (Kd.R_types HO538.out BK542.out (by decide)) (fun _ hk => hk.2) (.bool t526)) (fun _ hk => hk.2) (.slice Ao45 t527.length co45)) (fun _ hk => hk.2) (.slice Ao46 t530.length co46)) (fun _ hk => hk.2) (.slice Ao47 t533.length co47)) (fun _ hk => hk.2) (.slice Ao48 t536.length co48)) (fun _ hk => hk.2) (.slice Ao49 t539.length co49)) (fun _ h_ => h_.1))))) (below_size cb_)); replace HO505 := q_ (Kd.R_elder' (by (with_reducible repeat (first | apply Kd.R_alloc | apply Kd.R_drewN | apply Kd.R_drew)); exact (Kd.R_mono (Kd.R_far (p := ⟨gb542, 5, none⟩) (Kd.R_far (p := ⟨gb542, 4, none⟩) (Kd.R_far (p := ⟨gb542, 3, none⟩) (Kd.R_far (p := ⟨gb542, 2, none⟩) (Kd.R_far (p := ⟨gb542, 1, none⟩) (Kd.R_far (p := ⟨gb542, 0, none⟩) (Kd.R_types HO505.out BK542.out (by decide)) (fun _ hk => hk.2) (.bool t526)) (fun _ hk => hk.2) (.slice Ao45 t527.length co45)) (fun _ hk => hk.2) (.slice Ao46 t530.length co46)) (fun _ hk => hk.2) (.slice Ao47 t533.length co47)) (fun _ hk => hk.2) (.slice Ao48 t536.length co48)) (fun _ hk => hk.2) (.slice Ao49 t539.length co49)) (fun _ h_ => h_.1))) (Kd.R_base ho3) hb); replace HO521 := q_ (Kd.R_elder' (by (with_reducible repeat (first | apply Kd.R_alloc | apply Kd.R_drewN | apply Kd.R_drew)); exact (Kd.R_mono (Kd.R_far (p := ⟨gb542, 5, none⟩) (Kd.R_far (p := ⟨gb542, 4, none⟩) (Kd.R_far (p := ⟨gb542, 3, none⟩) (Kd.R_far (p := ⟨gb542, 2, none⟩) (Kd.R_far (p := ⟨gb542, 1, none⟩) (Kd.R_far (p := ⟨gb542, 0, none⟩) (Kd.R_types HO521.out BK542.out (by decide)) (fun _ hk => hk.2) (.bool t526)) (fun _ hk => hk.2) (.slice Ao45 t527.length co45)) (fun _ hk => hk.2) (.slice Ao46 t530.length co46)) (fun _ hk => hk.2) (.slice Ao47 t533.length co47)) (fun _ hk => hk.2) (.slice Ao48 t536.length co48)) (fun _ hk => hk.2) (.slice Ao49 t539.length co49)) (fun _ h_ => h_.1))) (Kd.R_base ho3) hb); replace HO538 := q_ (Kd.R_elder' (by (with_reducible repeat (first | apply Kd.R_alloc | apply Kd.R_drewN | apply Kd.R_drew)); exact (Kd.R_mono (Kd.R_far (p := ⟨gb542, 5, none⟩) (Kd.R_far (p := ⟨gb542, 4, none⟩) (Kd.R_far (p := ⟨gb542, 3, none⟩) (Kd.R_far (p := ⟨gb542, 2, none⟩) (Kd.R_far (p := ⟨gb542, 1, none⟩) (Kd.R_far (p := ⟨gb542, 0, none⟩) (Kd.R_types HO538.out BK542.out (by decide)) (fun _ hk => hk.2) (.bool t526)) (fun _ hk => hk.2) (.slice Ao45 t527.length co45)) (fun _ hk => hk.2) (.slice Ao46 t530.length co46)) (fun _ hk => hk.2) (.slice Ao47 t533.length co47)) (fun _ hk => hk.2) (.slice Ao48 t536.length co48)) (fun _ hk => hk.2) (.slice Ao49 t539.length co49)) (fun _ h_ => h_.1))) (Kd.R_base ho3) hb); have HO558 := q_ (Kd.R_lower (Kd.R_new' (Kd.R_new' (Kd.R_new' ho4 (Kd.R_lt (by (with_reducible repeat (first | apply Kd.R_alloc | apply Kd.R_drewN | apply Kd.R_drew)); exact (Kd.R_mono (Kd.R_far (p := ⟨gb542, 5, none⟩) (Kd.R_far (p := ⟨gb542, 4, none⟩) (Kd.R_far (p := ⟨gb542, 3, none⟩) (Kd.R_far (p := ⟨gb542, 2, none⟩) (Kd.R_far (p := ⟨gb542, 1, none⟩) (Kd.R_far (p := ⟨gb542, 0, none⟩) (Kd.R_types HO508.out BK542.out (by decide)) (fun _ hk => hk.2) (.bool t526)) (fun _ hk => hk.2) (.slice Ao45 t527.length co45)) (fun _ hk => hk.2) (.slice Ao46 t530.length co46)) (fun _ hk => hk.2) (.slice Ao47 t533.length co47)) (fun _ hk => hk.2) (.slice Ao48 t536.length co48)) (fun _ hk => hk.2) (.slice Ao49 t539.length co49)) (fun _ h_ => h_.1))))) (Kd.R_lt (by (with_reducible repeat (first | apply Kd.R_alloc | apply Kd.R_drewN | apply Kd.R_drew)); exact (Kd.R_mono (Kd.R_far (p := ⟨gb542, 5, none⟩) (Kd.R_far (p := ⟨gb542, 4, none⟩) (Kd.R_far (p := ⟨gb542, 3, none⟩) (Kd.R_far (p := ⟨gb542, 2, none⟩) (Kd.R_far (p := ⟨gb542, 1, none⟩) (Kd.R_far (p := ⟨gb542, 0, none⟩) (Kd.R_types HO524.out BK542.out (by decide)) (fun _ hk => hk.2) (.bool t526)) (fun _ hk => hk.2) (.slice Ao45 t527.length co45)) (fun _ hk => hk.2) (.slice Ao46 t530.length co46)) (fun _ hk => hk.2) (.slice Ao47 t533.length co47)) (fun _ hk => hk.2) (.slice Ao48 t536.length co48)) (fun _ hk => hk.2) (.slice Ao49 t539.length co49)) (fun _ h_ => h_.1))))) (Kd.R_lt (by (with_reducible repeat (first | apply Kd.R_alloc | apply Kd.R_drewN | apply Kd.R_drew)); exact (Kd.R_mono (Kd.R_far (p := ⟨gb542, 5, none⟩) (Kd.R_far (p := ⟨gb542, 4, none⟩) (Kd.R_far (p := ⟨gb542, 3, none⟩) (Kd.R_far (p := ⟨gb542, 2, none⟩) (Kd.R_far (p := ⟨gb542, 1, none⟩) (Kd.R_far (p := ⟨gb542, 0, none⟩) (Kd.R_types HO541.out BK542.out (by decide)) (fun _ hk => hk.2) (.bool t526)) (fun _ hk => hk.2) (.slice Ao45 t527.length co45)) (fun _ hk => hk.2) (.slice Ao46 t530.length co46)) (fun _ hk => hk.2) (.slice Ao47 t533.length co47)) (fun _ hk => hk.2) (.slice Ao48 t536.length co48)) (fun _ hk => hk.2) (.slice Ao49 t539.length co49)) (fun _ h_ => h_.1))))) (below_size cb_)); replace HO508 := q_ (Kd.R_elder' (by (with_reducible repeat (first | apply Kd.R_alloc | apply Kd.R_drewN | apply Kd.R_drew)); exact (Kd.R_mono (Kd.R_far (p := ⟨gb542, 5, none⟩) (Kd.R_far (p := ⟨gb542, 4, none⟩) (Kd.R_far (p := ⟨gb542, 3, none⟩) (Kd.R_far (p := ⟨gb542, 2, none⟩) (Kd.R_far (p := ⟨gb542, 1, none⟩) (Kd.R_far (p := ⟨gb542, 0, none⟩) (Kd.R_types HO508.out BK542.out (by decide)) (fun _ hk => hk.2) (.bool t526)) (fun _ hk => hk.2) (.slice Ao45 t527.length co45)) (fun _ hk => hk.2) (.slice Ao46 t530.length co46)) (fun _ hk => hk.2) (.slice Ao47 t533.length co47)) (fun _ hk => hk.2) (.slice Ao48 t536.length co48)) (fun _ hk => hk.2) (.slice Ao49 t539.length co49)) (fun _ h_ => h_.1))) (Kd.R_base ho4) hb); replace HO524 := q_ (Kd.R_elder' (by (with_reducible repeat (first | apply Kd.R_alloc | apply Kd.R_drewN | apply Kd.R_drew)); exact (Kd.R_mono (Kd.R_far (p := ⟨gb542, 5, none⟩) (Kd.R_far (p := ⟨gb542, 4, none⟩) (Kd.R_far (p := ⟨gb542, 3, none⟩) (Kd.R_far (p := ⟨gb542, 2, none⟩) (Kd.R_far (p := ⟨gb542, 1, none⟩) (Kd.R_far (p := ⟨gb542, 0, none⟩) (Kd.R_types HO524.out BK542.out (by decide)) (fun _ hk => hk.2) (.bool t526)) (fun _ hk => hk.2) (.slice Ao45 t527.length co45)) (fun _ hk => hk.2) (.slice Ao46 t530.length co46)) (fun _ hk => hk.2) (.slice Ao47 t533.length co47)) (fun _ hk => hk.2) (.slice Ao48 t536.length co48)) (fun _ hk => hk.2) (.slice Ao49 t539.length co49)) (fun _ h_ => h_.1))) (Kd.R_base ho4) hb); replace HO541 := q_ (Kd.R_elder' (by (with_reducible repeat (first | apply Kd.R_alloc | apply Kd.R_drewN | apply Kd.R_drew)); exact (Kd.R_mono (Kd.R_far (p := ⟨gb542, 5, none⟩) (Kd.R_far (p := ⟨gb542, 4, none⟩) (Kd.R_far (p := ⟨gb542, 3, none⟩) (Kd.R_far (p := ⟨gb542, 2, none⟩) (Kd.R_far (p := ⟨gb542, 1, none⟩) (Kd.R_far (p := ⟨gb542, 0, none⟩) (Kd.R_types HO541.out BK542.out (by decide)) (fun _ hk => hk.2) (.bool t526)) (fun _ hk => hk.2) (.slice Ao45 t527.length co45)) (fun _ hk => hk.2) (.slice Ao46 t530.length co46)) (fun _ hk => hk.2) (.slice Ao47 t533.length co47)) (fun _ hk => hk.2) (.slice Ao48 t536.length co48)) (fun _ hk => hk.2) (.slice Ao49 t539.length co49)) (fun _ h_ => h_.1))) (Kd.R_base ho4) hb); replace BK489 := q_ (blk_below (g := gb489) (o := .cells #[.bool a0_0, .slice A0_1 l0_1.length c0_1, .slice A0_2 l0_2.length c0_2, .slice A0_3 l0_3.length c0_3, .slice A0_4 l0_4.length c0_4, .slice A0_5 l0_5.length c0_5] 59 (0, 0)) (by (with_reducible repeat (first | refine blk_drewN ?_ _ | refine blk_drew ?_ | refine blk_alloc ?_ _)); refine blk_far ?_ NB489_542.out _; (with_reducible repeat (first | refine blk_drewN ?_ _ | refine blk_drew ?_ | refine blk_alloc ?_ _)); refine blk_far ?_ NB489_542.out _; (with_reducible repeat (first | refine blk_drewN ?_ _ | refine blk_drew ?_ | refine blk_alloc ?_ _)); refine blk_far ?_ NB489_542.out _; (with_reducible repeat (first | refine blk_drewN ?_ _ | refine blk_drew ?_ | refine blk_alloc ?_ _)); refine blk_far ?_ NB489_542.out _; (with_reducible repeat (first | refine blk_drewN ?_ _ | refine blk_drew ?_ | refine blk_alloc ?_ _)); refine blk_far ?_ NB489_542.out _; (with_reducible repeat (first | refine blk_drewN ?_ _ | refine blk_drew ?_ | refine blk_alloc ?_ _)); refine blk_far ?_ NB489_542.out _; (with_reducible repeat (first | refine blk_drewN ?_ _ | refine blk_drew ?_ | refine blk_alloc ?_ _)); exact BK489.out) hb); replace BK490 := q_ (blk_below (g := gb490) (o := .cells #[.bool a1_0, .slice A1_1 l1_1.length c1_1, .slice A1_2 l1_2.length c1_2, .slice A1_3 l1_3.length c1_3, .slice A1_4 l1_4.length c1_4, .slice A1_5 l1_5.length c1_5] 59 (0, 0)) (by (with_reducible repeat (first | refine blk_drewN ?_ _ | refine blk_drew ?_ | refine blk_alloc ?_ _)); refine blk_far ?_ NB490_542.out _; (with_reducible repeat (first | refine blk_drewN ?_ _ | refine blk_drew ?_ | refine blk_alloc ?_ _)); refine blk_far ?_ NB490_542.out _; (with_reducible repeat (first | refine blk_drewN ?_ _ | refine blk_drew ?_ | refine blk_alloc ?_ _)); refine blk_far ?_ NB490_542.out _; (with_reducible repeat (first | refine blk_drewN ?_ _ | refine blk_drew ?_ | refine blk_alloc ?_ _)); refine blk_far ?_ NB490_542.out _; (with_reducible repeat (first | refine blk_drewN ?_ _ | refine blk_drew ?_ | refine blk_alloc ?_ _)); refine blk_far ?_ NB490_542.out _; (with_reducible repeat (first | refine blk_drewN ?_ _ | refine blk_drew ?_ | refine blk_alloc ?_ _)); refine blk_far ?_ NB490_542.out _; (with_reducible repeat (first | refine blk_drewN ?_ _ | refine blk_drew ?_ | refine blk_alloc ?_ _)); exact BK490.out) hb); replace BK542 := q_ (blk_below (g := gb542) (o := .cells #[.bool t526, .slice Ao45 t527.length co45, .slice Ao46 t530.length co46, .slice Ao47 t533.length co47, .slice Ao48 t536.length co48, .slice Ao49 t539.length co49] 64 (0, 0)) (by (with_reducible repeat (first | refine blk_drewN ?_ _ | refine blk_drew ?_ | refine blk_alloc ?_ _)); refine blk_put (cs := #[.bool t526, .slice Ao45 t527.length co45, .slice Ao46 t530.length co46, .slice Ao47 t533.length co47, .slice Ao48 t536.length co48, .slice none 0 0]) ?_ 5 _ rfl; (with_reducible repeat (first | refine blk_drewN ?_ _ | refine blk_drew ?_ | refine blk_alloc ?_ _)); refine blk_put (cs := #[.bool t526, .slice Ao45 t527.length co45, .slice Ao46 t530.length co46, .slice Ao47 t533.length co47, .slice none 0 0, .slice none 0 0]) ?_ 4 _ rfl; (with_reducible repeat (first | refine blk_drewN ?_ _ | refine blk_drew ?_ | refine blk_alloc ?_ _)); refine blk_put (cs := #[.bool t526, .slice Ao45 t527.length co45, .slice Ao46 t530.length co46, .slice none 0 0, .slice none 0 0, .slice none 0 0]) ?_ 3 _ rfl; (with_reducible repeat (first | refine blk_drewN ?_ _ | refine blk_drew ?_ | refine blk_alloc ?_ _)); refine blk_put (cs := #[.bool t526, .slice Ao45 t527.length co45, .slice none 0 0, .slice none 0 0, .slice none 0 0, .slice none 0 0]) ?_ 2 _ rfl; (with_reducible repeat (first | refine blk_drewN ?_ _ | refine blk_drew ?_ | refine blk_alloc ?_ _)); refine blk_put (cs := #[.bool t526, .slice none 0 0, .slice none 0 0, .slice none 0 0, .slice none 0 0, .slice none 0 0]) ?_ 1 _ rfl; (with_reducible repeat (first | refine blk_drewN ?_ _ | refine blk_drew ?_ | refine blk_alloc ?_ _)); refine blk_put (cs := #[.bool false, .slice none 0 0, .slice none 0 0, .slice none 0 0, .slice none 0 0, .slice none 0 0]) ?_ 0 _ rfl; (with_reducible repeat (first | refine blk_drewN ?_ _ | refine blk_drew ?_ | refine blk_alloc ?_ _)); exact BK542.out) hb); replace HB := hb_ hb; (try clear hb); (try clear hb2); (try clear hk); (try clear hi); (try clear ho0); (try clear ho1); (try clear ho2); (try clear ho3); (try clear ho4)) | ((with_reducible refine gate_dst (N := 8) rfl ?_); refine box_event ?hg (N := 8) ?hd (cs := #[.bool false, .slice none 0 0, .slice none 0 0, .slice none 0 0, .slice none 0 0, .slice none 0 0]) (t := 64) ?hr ?_; (case hd => rfl); (case hg => rfl); (case hr => exact z92_); intro gb559 hg w52 hbox hb; replace HO496 := q_ (Kd.R_below z9_ hb); replace HO499 := q_ (Kd.R_below z10_ hb); replace HO502 := q_ (Kd.R_below z17_ hb); replace HO505 := q_ (Kd.R_below z11_ hb); replace HO508 := q_ (Kd.R_below z18_ hb); replace HO512 := q_ (Kd.R_below z14_ hb); replace HO515 := q_ (Kd.R_below z15_ hb); replace HO518 := q_ (Kd.R_below z25_ hb); replace HO521 := q_ (Kd.R_below z16_ hb); replace HO524 := q_ (Kd.R_below z26_ hb); replace HO529 := q_ (Kd.R_below z27_ hb); replace HO532 := q_ (Kd.R_below z28_ hb); replace HO535 := q_ (Kd.R_below z35_ hb); replace HO538 := q_ (Kd.R_below z29_ hb); replace HO541 := q_ (Kd.R_below z36_ hb); replace HO546 := q_ (Kd.R_below z31_ hb); replace HO549 := q_ (Kd.R_below z32_ hb); replace HO552 := q_ (Kd.R_below z38_ hb); replace HO555 := q_ (Kd.R_below z33_ hb); replace HO558 := q_ (Kd.R_below z39_ hb); have BK559 := q_ (hbox); have GW559 := ge_ hg; have GE559 := ge_ hg; replace HB := hb_ hb; have NB489_559 := nl_ hg BK489; have NB559_489 := nr_ hg BK489; replace BK489 := rb_ BK489 hb; have NB490_559 := nl_ hg BK490; have NB559_490 := nr_ hg BK490; replace BK490 := rb_ BK490 hb; have NB542_559 := nl_ hg BK542; have NB559_542 := nr_ hg BK542; replace BK542 := rb_ BK542 hb; clear hb hbox hg; have hnb53 := NB559_489.out; have hnc53 := NB489_559.out; have hnb54 := NB559_490.out; have hnc54 := NB490_559.out; have hnb55 := NB559_542.out; have hnc55 := NB542_559.out; obtain ⟨hz_, hz_, hz_, hz_, hz_, hz_, hz_, hz_, hz_, hz_, hz_, hz_⟩ := cs6_ BK559.out; obtain ⟨Ao57, co57, eo57⟩ := Kd.R_slice HO546.out; subst eo57; obtain ⟨Ao58, co58, eo58⟩ := Kd.R_slice HO549.out; subst eo58; obtain ⟨Ao59, co59, eo59⟩ := Kd.R_slice HO552.out; subst eo59; obtain ⟨Ao60, co60, eo60⟩ := Kd.R_slice HO555.out; subst eo60; obtain ⟨Ao61, co61, eo61⟩ := Kd.R_slice HO558.out; subst eo61; obtain ⟨hz_, hz_, hz_, hz_, hz_, hz_, hz_, hz_, hz_, hz_, hz_, hz_⟩ := cs6_ BK542.out) | ((with_reducible refine gate_callee (f := 46) rfl ?_); refine goesL_ (some 31) rfl rfl Try.func46 (by kernel_rfl) rfl #[.agg #[.bool t526, .slice Ao45 t527.length co45, .slice Ao46 t530.length co46, .slice Ao47 t533.length co47, .slice Ao48 t536.length co48, .slice Ao49 t539.length co49], .agg #[.bool t543, .slice Ao57 t544.length co57, .slice Ao58 t547.length co58, .slice Ao59 t550.length co59, .slice Ao60 t553.length co60, .slice Ao61 t556.length co61]] rfl z0_ ?_; (with_reducible refine (impl_MachineSame.calls k t526 _ _ t527 _ _ t530 _ _ t533 _ _ t536 _ _ t539 t543 _ _ t544 _ _ t547 _ _ t550 _ _ t553 _ _ t556 t560 _ ?side1 ?side2 ?side3 ?side4 ?side5 ?side6 ?side7 ?side8 ?side9 ?side10 ?side11 ?side12 ?side13 ?side14 ?side15 ?side16 ?side17 ?side18 ?side19 ?side20 A22.out).mono ?_); (case side1 => refine (Kd.R_reads' (e := 92) (base := w.heap.size) (ok := fun k_ => (((True ∧ some k_ ≠ (.slice Ao27 t494.length co27 : Value).ownBlock) ∧ some k_ ≠ (.slice Ao32 t510.length co32 : Value).ownBlock) ∧ some k_ ≠ (.slice Ao57 t544.length co57 : Value).ownBlock)) (n := t527.length) (c := co45) ?_).2.2; exact (by (with_reducible repeat (first | apply Kd.R_alloc | apply Kd.R_drewN | apply Kd.R_drew)); exact (Kd.R_mono (Kd.R_far (p := ⟨gb559, 5, none⟩) (Kd.R_far (p := ⟨gb559, 4, none⟩) (Kd.R_far (p := ⟨gb559, 3, none⟩) (Kd.R_far (p := ⟨gb559, 2, none⟩) (Kd.R_far (p := ⟨gb559, 1, none⟩) (Kd.R_far (p := ⟨gb559, 0, none⟩) (Kd.R_types HO529.out BK559.out (by decide)) (fun _ hk => hk.2) (.bool t543)) (fun _ hk => hk.2) (.slice Ao57 t544.length co57)) (fun _ hk => hk.2) (.slice Ao58 t547.length co58)) (fun _ hk => hk.2) (.slice Ao59 t550.length co59)) (fun _ hk => hk.2) (.slice Ao60 t553.length co60)) (fun _ hk => hk.2) (.slice Ao61 t556.length co61)) (fun _ h_ => h_.1)))); (case side2 => exact (Kd.R_reads' HO529.out).2.1); (case side3 => refine (Kd.R_reads' (e := 3) (base := w.heap.size) (ok := fun k_ => (((True ∧ some k_ ≠ (.slice Ao28 t497.length co28 : Value).ownBlock) ∧ some k_ ≠ (.slice Ao33 t513.length co33 : Value).ownBlock) ∧ some k_ ≠ (.slice Ao58 t547.length co58 : Value).ownBlock)) (n := t530.length) (c := co46) ?_).2.2; exact (by (with_reducible repeat (first | apply Kd.R_alloc | apply Kd.R_drewN | apply Kd.R_drew)); exact (Kd.R_mono (Kd.R_far (p := ⟨gb559, 5, none⟩) (Kd.R_far (p := ⟨gb559, 4, none⟩) (Kd.R_far (p := ⟨gb559, 3, none⟩) (Kd.R_far (p := ⟨gb559, 2, none⟩) (Kd.R_far (p := ⟨gb559, 1, none⟩) (Kd.R_far (p := ⟨gb559, 0, none⟩) (Kd.R_types HO532.out BK559.out (by decide)) (fun _ hk => hk.2) (.bool t543)) (fun _ hk => hk.2) (.slice Ao57 t544.length co57)) (fun _ hk => hk.2) (.slice Ao58 t547.length co58)) (fun _ hk => hk.2) (.slice Ao59 t550.length co59)) (fun _ hk => hk.2) (.slice Ao60 t553.length co60)) (fun _ hk => hk.2) (.slice Ao61 t556.length co61)) (fun _ h_ => h_.1)))); (case side4 => exact (Kd.R_reads' HO532.out).2.1); (case side5 => refine (Kd.R_reads' (e := 34) (base := w.heap.size) (ok := fun k_ => (((((((((((((some k_ ≠ (.slice Ao45 t527.length co45 : Value).ownBlock ∧ (some k_ ≠ (.slice Ao46 t530.length co46 : Value).ownBlock ∧ some k_ ≠ (.slice Ao48 t536.length co48 : Value).ownBlock)) ∧ some k_ ≠ (.slice Ao27 t494.length co27 : Value).ownBlock) ∧ some k_ ≠ (.slice Ao28 t497.length co28 : Value).ownBlock) ∧ some k_ ≠ (.slice Ao29 t500.length co29 : Value).ownBlock) ∧ some k_ ≠ (.slice Ao30 t503.length co30 : Value).ownBlock) ∧ some k_ ≠ (.slice Ao32 t510.length co32 : Value).ownBlock) ∧ some k_ ≠ (.slice Ao33 t513.length co33 : Value).ownBlock) ∧ some k_ ≠ (.slice Ao34 t516.length co34 : Value).ownBlock) ∧ some k_ ≠ (.slice Ao35 t519.length co35 : Value).ownBlock) ∧ some k_ ≠ (.slice Ao57 t544.length co57 : Value).ownBlock) ∧ some k_ ≠ (.slice Ao58 t547.length co58 : Value).ownBlock) ∧ some k_ ≠ (.slice Ao59 t550.length co59 : Value).ownBlock) ∧ some k_ ≠ (.slice Ao60 t553.length co60 : Value).ownBlock)) (n := t533.length) (c := co47) ?_).2.2; exact (by (with_reducible repeat (first | apply Kd.R_alloc | apply Kd.R_drewN | apply Kd.R_drew)); exact (Kd.R_mono (Kd.R_far (p := ⟨gb559, 5, none⟩) (Kd.R_far (p := ⟨gb559, 4, none⟩) (Kd.R_far (p := ⟨gb559, 3, none⟩) (Kd.R_far (p := ⟨gb559, 2, none⟩) (Kd.R_far (p := ⟨gb559, 1, none⟩) (Kd.R_far (p := ⟨gb559, 0, none⟩) (Kd.R_types HO535.out BK559.out (by decide)) (fun _ hk => hk.2) (.bool t543)) (fun _ hk => hk.2) (.slice Ao57 t544.length co57)) (fun _ hk => hk.2) (.slice Ao58 t547.length co58)) (fun _ hk => hk.2) (.slice Ao59 t550.length co59)) (fun _ hk => hk.2) (.slice Ao60 t553.length co60)) (fun _ hk => hk.2) (.slice Ao61 t556.length co61)) (fun _ h_ => h_.1)))); (case side6 => exact (Kd.R_reads' HO535.out).2.1); (case side7 => refine (Kd.R_reads' (e := 72) (base := w.heap.size) (ok := fun k_ => (((True ∧ some k_ ≠ (.slice Ao30 t503.length co30 : Value).ownBlock) ∧ some k_ ≠ (.slice Ao35 t519.length co35 : Value).ownBlock) ∧ some k_ ≠ (.slice Ao60 t553.length co60 : Value).ownBlock)) (n := t536.length) (c := co48) ?_).2.2; exact (by (with_reducible repeat (first | apply Kd.R_alloc | apply Kd.R_drewN | apply Kd.R_drew)); exact (Kd.R_mono (Kd.R_far (p := ⟨gb559, 5, none⟩) (Kd.R_far (p := ⟨gb559, 4, none⟩) (Kd.R_far (p := ⟨gb559, 3, none⟩) (Kd.R_far (p := ⟨gb559, 2, none⟩) (Kd.R_far (p := ⟨gb559, 1, none⟩) (Kd.R_far (p := ⟨gb559, 0, none⟩) (Kd.R_types HO538.out BK559.out (by decide)) (fun _ hk => hk.2) (.bool t543)) (fun _ hk => hk.2) (.slice Ao57 t544.length co57)) (fun _ hk => hk.2) (.slice Ao58 t547.length co58)) (fun _ hk => hk.2) (.slice Ao59 t550.length co59)) (fun _ hk => hk.2) (.slice Ao60 t553.length co60)) (fun _ hk => hk.2) (.slice Ao61 t556.length co61)) (fun _ h_ => h_.1)))); (case side8 => exact (Kd.R_reads' HO538.out).2.1); (case side9 => refine (Kd.R_reads' (e := 98) (base := w.heap.size) (ok := fun k_ => (((True ∧ some k_ ≠ (.slice Ao31 t506.length co31 : Value).ownBlock) ∧ some k_ ≠ (.slice Ao36 t522.length co36 : Value).ownBlock) ∧ some k_ ≠ (.slice Ao61 t556.length co61 : Value).ownBlock)) (n := t539.length) (c := co49) ?_).2.2; exact (by (with_reducible repeat (first | apply Kd.R_alloc | apply Kd.R_drewN | apply Kd.R_drew)); exact (Kd.R_mono (Kd.R_far (p := ⟨gb559, 5, none⟩) (Kd.R_far (p := ⟨gb559, 4, none⟩) (Kd.R_far (p := ⟨gb559, 3, none⟩) (Kd.R_far (p := ⟨gb559, 2, none⟩) (Kd.R_far (p := ⟨gb559, 1, none⟩) (Kd.R_far (p := ⟨gb559, 0, none⟩) (Kd.R_types HO541.out BK559.out (by decide)) (fun _ hk => hk.2) (.bool t543)) (fun _ hk => hk.2) (.slice Ao57 t544.length co57)) (fun _ hk => hk.2) (.slice Ao58 t547.length co58)) (fun _ hk => hk.2) (.slice Ao59 t550.length co59)) (fun _ hk => hk.2) (.slice Ao60 t553.length co60)) (fun _ hk => hk.2) (.slice Ao61 t556.length co61)) (fun _ h_ => h_.1)))); (case side10 => exact (Kd.R_reads' HO541.out).2.1); (case side11 => refine (Kd.R_reads' (e := 92) (base := w.heap.size) (ok := fun k_ => (((True ∧ some k_ ≠ (.slice Ao27 t494.length co27 : Value).ownBlock) ∧ some k_ ≠ (.slice Ao32 t510.length co32 : Value).ownBlock) ∧ some k_ ≠ (.slice Ao45 t527.length co45 : Value).ownBlock)) (n := t544.length) (c := co57) ?_).2.2; exact (by (with_reducible repeat (first | apply Kd.R_alloc | apply Kd.R_drewN | apply Kd.R_drew)); exact (Kd.R_mono (Kd.R_far (p := ⟨gb559, 5, none⟩) (Kd.R_far (p := ⟨gb559, 4, none⟩) (Kd.R_far (p := ⟨gb559, 3, none⟩) (Kd.R_far (p := ⟨gb559, 2, none⟩) (Kd.R_far (p := ⟨gb559, 1, none⟩) (Kd.R_far (p := ⟨gb559, 0, none⟩) (Kd.R_types HO546.out BK559.out (by decide)) (fun _ hk => hk.2) (.bool t543)) (fun _ hk => hk.2) (.slice Ao57 t544.length co57)) (fun _ hk => hk.2) (.slice Ao58 t547.length co58)) (fun _ hk => hk.2) (.slice Ao59 t550.length co59)) (fun _ hk => hk.2) (.slice Ao60 t553.length co60)) (fun _ hk => hk.2) (.slice Ao61 t556.length co61)) (fun _ h_ => h_.1)))); (case side12 => exact (Kd.R_reads' HO546.out).2.1); (case side13 => refine (Kd.R_reads' (e := 3) (base := w.heap.size) (ok := fun k_ => (((True ∧ some k_ ≠ (.slice Ao28 t497.length co28 : Value).ownBlock) ∧ some k_ ≠ (.slice Ao33 t513.length co33 : Value).ownBlock) ∧ some k_ ≠ (.slice Ao46 t530.length co46 : Value).ownBlock)) (n := t547.length) (c := co58) ?_).2.2; exact (by (with_reducible repeat (first | apply Kd.R_alloc | apply Kd.R_drewN | apply Kd.R_drew)); exact (Kd.R_mono (Kd.R_far (p := ⟨gb559, 5, none⟩) (Kd.R_far (p := ⟨gb559, 4, none⟩) (Kd.R_far (p := ⟨gb559, 3, none⟩) (Kd.R_far (p := ⟨gb559, 2, none⟩) (Kd.R_far (p := ⟨gb559, 1, none⟩) (Kd.R_far (p := ⟨gb559, 0, none⟩) (Kd.R_types HO549.out BK559.out (by decide)) (fun _ hk => hk.2) (.bool t543)) (fun _ hk => hk.2) (.slice Ao57 t544.length co57)) (fun _ hk => hk.2) (.slice Ao58 t547.length co58)) (fun _ hk => hk.2) (.slice Ao59 t550.length co59)) (fun _ hk => hk.2) (.slice Ao60 t553.length co60)) (fun _ hk => hk.2) (.slice Ao61 t556.length co61)) (fun _ h_ => h_.1)))); (case side14 => exact (Kd.R_reads' HO549.out).2.1); (case side15 => refine (Kd.R_reads' (e := 34) (base := w.heap.size) (ok := fun k_ => (((((((((((((some k_ ≠ (.slice Ao57 t544.length co57 : Value).ownBlock ∧ (some k_ ≠ (.slice Ao58 t547.length co58 : Value).ownBlock ∧ some k_ ≠ (.slice Ao60 t553.length co60 : Value).ownBlock)) ∧ some k_ ≠ (.slice Ao27 t494.length co27 : Value).ownBlock) ∧ some k_ ≠ (.slice Ao28 t497.length co28 : Value).ownBlock) ∧ some k_ ≠ (.slice Ao29 t500.length co29 : Value).ownBlock) ∧ some k_ ≠ (.slice Ao30 t503.length co30 : Value).ownBlock) ∧ some k_ ≠ (.slice Ao32 t510.length co32 : Value).ownBlock) ∧ some k_ ≠ (.slice Ao33 t513.length co33 : Value).ownBlock) ∧ some k_ ≠ (.slice Ao34 t516.length co34 : Value).ownBlock) ∧ some k_ ≠ (.slice Ao35 t519.length co35 : Value).ownBlock) ∧ some k_ ≠ (.slice Ao45 t527.length co45 : Value).ownBlock) ∧ some k_ ≠ (.slice Ao46 t530.length co46 : Value).ownBlock) ∧ some k_ ≠ (.slice Ao47 t533.length co47 : Value).ownBlock) ∧ some k_ ≠ (.slice Ao48 t536.length co48 : Value).ownBlock)) (n := t550.length) (c := co59) ?_).2.2; exact (by (with_reducible repeat (first | apply Kd.R_alloc | apply Kd.R_drewN | apply Kd.R_drew)); exact (Kd.R_mono (Kd.R_far (p := ⟨gb559, 5, none⟩) (Kd.R_far (p := ⟨gb559, 4, none⟩) (Kd.R_far (p := ⟨gb559, 3, none⟩) (Kd.R_far (p := ⟨gb559, 2, none⟩) (Kd.R_far (p := ⟨gb559, 1, none⟩) (Kd.R_far (p := ⟨gb559, 0, none⟩) (Kd.R_types HO552.out BK559.out (by decide)) (fun _ hk => hk.2) (.bool t543)) (fun _ hk => hk.2) (.slice Ao57 t544.length co57)) (fun _ hk => hk.2) (.slice Ao58 t547.length co58)) (fun _ hk => hk.2) (.slice Ao59 t550.length co59)) (fun _ hk => hk.2) (.slice Ao60 t553.length co60)) (fun _ hk => hk.2) (.slice Ao61 t556.length co61)) (fun _ h_ => h_.1)))); (case side16 => exact (Kd.R_reads' HO552.out).2.1); (case side17 => refine (Kd.R_reads' (e := 72) (base := w.heap.size) (ok := fun k_ => (((True ∧ some k_ ≠ (.slice Ao30 t503.length co30 : Value).ownBlock) ∧ some k_ ≠ (.slice Ao35 t519.length co35 : Value).ownBlock) ∧ some k_ ≠ (.slice Ao48 t536.length co48 : Value).ownBlock)) (n := t553.length) (c := co60) ?_).2.2; exact (by (with_reducible repeat (first | apply Kd.R_alloc | apply Kd.R_drewN | apply Kd.R_drew)); exact (Kd.R_mono (Kd.R_far (p := ⟨gb559, 5, none⟩) (Kd.R_far (p := ⟨gb559, 4, none⟩) (Kd.R_far (p := ⟨gb559, 3, none⟩) (Kd.R_far (p := ⟨gb559, 2, none⟩) (Kd.R_far (p := ⟨gb559, 1, none⟩) (Kd.R_far (p := ⟨gb559, 0, none⟩) (Kd.R_types HO555.out BK559.out (by decide)) (fun _ hk => hk.2) (.bool t543)) (fun _ hk => hk.2) (.slice Ao57 t544.length co57)) (fun _ hk => hk.2) (.slice Ao58 t547.length co58)) (fun _ hk => hk.2) (.slice Ao59 t550.length co59)) (fun _ hk => hk.2) (.slice Ao60 t553.length co60)) (fun _ hk => hk.2) (.slice Ao61 t556.length co61)) (fun _ h_ => h_.1)))); (case side18 => exact (Kd.R_reads' HO555.out).2.1); (case side19 => refine (Kd.R_reads' (e := 98) (base := w.heap.size) (ok := fun k_ => (((True ∧ some k_ ≠ (.slice Ao31 t506.length co31 : Value).ownBlock) ∧ some k_ ≠ (.slice Ao36 t522.length co36 : Value).ownBlock) ∧ some k_ ≠ (.slice Ao49 t539.length co49 : Value).ownBlock)) (n := t556.length) (c := co61) ?_).2.2; exact (by (with_reducible repeat (first | apply Kd.R_alloc | apply Kd.R_drewN | apply Kd.R_drew)); exact (Kd.R_mono (Kd.R_far (p := ⟨gb559, 5, none⟩) (Kd.R_far (p := ⟨gb559, 4, none⟩) (Kd.R_far (p := ⟨gb559, 3, none⟩) (Kd.R_far (p := ⟨gb559, 2, none⟩) (Kd.R_far (p := ⟨gb559, 1, none⟩) (Kd.R_far (p := ⟨gb559, 0, none⟩) (Kd.R_types HO558.out BK559.out (by decide)) (fun _ hk => hk.2) (.bool t543)) (fun _ hk => hk.2) (.slice Ao57 t544.length co57)) (fun _ hk => hk.2) (.slice Ao58 t547.length co58)) (fun _ hk => hk.2) (.slice Ao59 t550.length co59)) (fun _ hk => hk.2) (.slice Ao60 t553.length co60)) (fun _ hk => hk.2) (.slice Ao61 t556.length co61)) (fun _ h_ => h_.1)))); (case side20 => exact (Kd.R_reads' HO558.out).2.1); rintro e w63 ⟨rfl, hb⟩; refine ⟨_, rfl, ?_⟩; replace HO496 := q_ (Kd.R_below (by (with_reducible repeat (first | apply Kd.R_alloc | apply Kd.R_drewN | apply Kd.R_drew)); exact (Kd.R_mono (Kd.R_far (p := ⟨gb559, 5, none⟩) (Kd.R_far (p := ⟨gb559, 4, none⟩) (Kd.R_far (p := ⟨gb559, 3, none⟩) (Kd.R_far (p := ⟨gb559, 2, none⟩) (Kd.R_far (p := ⟨gb559, 1, none⟩) (Kd.R_far (p := ⟨gb559, 0, none⟩) (Kd.R_types HO496.out BK559.out (by decide)) (fun _ hk => hk.2) (.bool t543)) (fun _ hk => hk.2) (.slice Ao57 t544.length co57)) (fun _ hk => hk.2) (.slice Ao58 t547.length co58)) (fun _ hk => hk.2) (.slice Ao59 t550.length co59)) (fun _ hk => hk.2) (.slice Ao60 t553.length co60)) (fun _ hk => hk.2) (.slice Ao61 t556.length co61)) (fun _ h_ => h_.1))) hb); replace HO499 := q_ (Kd.R_below (by (with_reducible repeat (first | apply Kd.R_alloc | apply Kd.R_drewN | apply Kd.R_drew)); exact (Kd.R_mono (Kd.R_far (p := ⟨gb559, 5, none⟩) (Kd.R_far (p := ⟨gb559, 4, none⟩) (Kd.R_far (p := ⟨gb559, 3, none⟩) (Kd.R_far (p := ⟨gb559, 2, none⟩) (Kd.R_far (p := ⟨gb559, 1, none⟩) (Kd.R_far (p := ⟨gb559, 0, none⟩) (Kd.R_types HO499.out BK559.out (by decide)) (fun _ hk => hk.2) (.bool t543)) (fun _ hk => hk.2) (.slice Ao57 t544.length co57)) (fun _ hk => hk.2) (.slice Ao58 t547.length co58)) (fun _ hk => hk.2) (.slice Ao59 t550.length co59)) (fun _ hk => hk.2) (.slice Ao60 t553.length co60)) (fun _ hk => hk.2) (.slice Ao61 t556.length co61)) (fun _ h_ => h_.1))) hb); replace HO502 := q_ (Kd.R_below (by (with_reducible repeat (first | apply Kd.R_alloc | apply Kd.R_drewN | apply Kd.R_drew)); exact (Kd.R_mono (Kd.R_far (p := ⟨gb559, 5, none⟩) (Kd.R_far (p := ⟨gb559, 4, none⟩) (Kd.R_far (p := ⟨gb559, 3, none⟩) (Kd.R_far (p := ⟨gb559, 2, none⟩) (Kd.R_far (p := ⟨gb559, 1, none⟩) (Kd.R_far (p := ⟨gb559, 0, none⟩) (Kd.R_types HO502.out BK559.out (by decide)) (fun _ hk => hk.2) (.bool t543)) (fun _ hk => hk.2) (.slice Ao57 t544.length co57)) (fun _ hk => hk.2) (.slice Ao58 t547.length co58)) (fun _ hk => hk.2) (.slice Ao59 t550.length co59)) (fun _ hk => hk.2) (.slice Ao60 t553.length co60)) (fun _ hk => hk.2) (.slice Ao61 t556.length co61)) (fun _ h_ => h_.1))) hb); replace HO505 := q_ (Kd.R_below (by (with_reducible repeat (first | apply Kd.R_alloc | apply Kd.R_drewN | apply Kd.R_drew)); exact (Kd.R_mono (Kd.R_far (p := ⟨gb559, 5, none⟩) (Kd.R_far (p := ⟨gb559, 4, none⟩) (Kd.R_far (p := ⟨gb559, 3, none⟩) (Kd.R_far (p := ⟨gb559, 2, none⟩) (Kd.R_far (p := ⟨gb559, 1, none⟩) (Kd.R_far (p := ⟨gb559, 0, none⟩) (Kd.R_types HO505.out BK559.out (by decide)) (fun _ hk => hk.2) (.bool t543)) (fun _ hk => hk.2) (.slice Ao57 t544.length co57)) (fun _ hk => hk.2) (.slice Ao58 t547.length co58)) (fun _ hk => hk.2) (.slice Ao59 t550.length co59)) (fun _ hk => hk.2) (.slice Ao60 t553.length co60)) (fun _ hk => hk.2) (.slice Ao61 t556.length co61)) (fun _ h_ => h_.1))) hb); replace HO508 := q_ (Kd.R_below (by (with_reducible repeat (first | apply Kd.R_alloc | apply Kd.R_drewN | apply Kd.R_drew)); exact (Kd.R_mono (Kd.R_far (p := ⟨gb559, 5, none⟩) (Kd.R_far (p := ⟨gb559, 4, none⟩) (Kd.R_far (p := ⟨gb559, 3, none⟩) (Kd.R_far (p := ⟨gb559, 2, none⟩) (Kd.R_far (p := ⟨gb559, 1, none⟩) (Kd.R_far (p := ⟨gb559, 0, none⟩) (Kd.R_types HO508.out BK559.out (by decide)) (fun _ hk => hk.2) (.bool t543)) (fun _ hk => hk.2) (.slice Ao57 t544.length co57)) (fun _ hk => hk.2) (.slice Ao58 t547.length co58)) (fun _ hk => hk.2) (.slice Ao59 t550.length co59)) (fun _ hk => hk.2) (.slice Ao60 t553.length co60)) (fun _ hk => hk.2) (.slice Ao61 t556.length co61)) (fun _ h_ => h_.1))) hb); replace HO512 := q_ (Kd.R_below (by (with_reducible repeat (first | apply Kd.R_alloc | apply Kd.R_drewN | apply Kd.R_drew)); exact (Kd.R_mono (Kd.R_far (p := ⟨gb559, 5, none⟩) (Kd.R_far (p := ⟨gb559, 4, none⟩) (Kd.R_far (p := ⟨gb559, 3, none⟩) (Kd.R_far (p := ⟨gb559, 2, none⟩) (Kd.R_far (p := ⟨gb559, 1, none⟩) (Kd.R_far (p := ⟨gb559, 0, none⟩) (Kd.R_types HO512.out BK559.out (by decide)) (fun _ hk => hk.2) (.bool t543)) (fun _ hk => hk.2) (.slice Ao57 t544.length co57)) (fun _ hk => hk.2) (.slice Ao58 t547.length co58)) (fun _ hk => hk.2) (.slice Ao59 t550.length co59)) (fun _ hk => hk.2) (.slice Ao60 t553.length co60)) (fun _ hk => hk.2) (.slice Ao61 t556.length co61)) (fun _ h_ => h_.1))) hb); replace HO515 := q_ (Kd.R_below (by (with_reducible repeat (first | apply Kd.R_alloc | apply Kd.R_drewN | apply Kd.R_drew)); exact (Kd.R_mono (Kd.R_far (p := ⟨gb559, 5, none⟩) (Kd.R_far (p := ⟨gb559, 4, none⟩) (Kd.R_far (p := ⟨gb559, 3, none⟩) (Kd.R_far (p := ⟨gb559, 2, none⟩) (Kd.R_far (p := ⟨gb559, 1, none⟩) (Kd.R_far (p := ⟨gb559, 0, none⟩) (Kd.R_types HO515.out BK559.out (by decide)) (fun _ hk => hk.2) (.bool t543)) (fun _ hk => hk.2) (.slice Ao57 t544.length co57)) (fun _ hk => hk.2) (.slice Ao58 t547.length co58)) (fun _ hk => hk.2) (.slice Ao59 t550.length co59)) (fun _ hk => hk.2) (.slice Ao60 t553.length co60)) (fun _ hk => hk.2) (.slice Ao61 t556.length co61)) (fun _ h_ => h_.1))) hb); replace HO518 := q_ (Kd.R_below (by (with_reducible repeat (first | apply Kd.R_alloc | apply Kd.R_drewN | apply Kd.R_drew)); exact (Kd.R_mono (Kd.R_far (p := ⟨gb559, 5, none⟩) (Kd.R_far (p := ⟨gb559, 4, none⟩) (Kd.R_far (p := ⟨gb559, 3, none⟩) (Kd.R_far (p := ⟨gb559, 2, none⟩) (Kd.R_far (p := ⟨gb559, 1, none⟩) (Kd.R_far (p := ⟨gb559, 0, none⟩) (Kd.R_types HO518.out BK559.out (by decide)) (fun _ hk => hk.2) (.bool t543)) (fun _ hk => hk.2) (.slice Ao57 t544.length co57)) (fun _ hk => hk.2) (.slice Ao58 t547.length co58)) (fun _ hk => hk.2) (.slice Ao59 t550.length co59)) (fun _ hk => hk.2) (.slice Ao60 t553.length co60)) (fun _ hk => hk.2) (.slice Ao61 t556.length co61)) (fun _ h_ => h_.1))) hb); replace HO521 := q_ (Kd.R_below (by (with_reducible repeat (first | apply Kd.R_alloc | apply Kd.R_drewN | apply Kd.R_drew)); exact (Kd.R_mono (Kd.R_far (p := ⟨gb559, 5, none⟩) (Kd.R_far (p := ⟨gb559, 4, none⟩) (Kd.R_far (p := ⟨gb559, 3, none⟩) (Kd.R_far (p := ⟨gb559, 2, none⟩) (Kd.R_far (p := ⟨gb559, 1, none⟩) (Kd.R_far (p := ⟨gb559, 0, none⟩) (Kd.R_types HO521.out BK559.out (by decide)) (fun _ hk => hk.2) (.bool t543)) (fun _ hk => hk.2) (.slice Ao57 t544.length co57)) (fun _ hk => hk.2) (.slice Ao58 t547.length co58)) (fun _ hk => hk.2) (.slice Ao59 t550.length co59)) (fun _ hk => hk.2) (.slice Ao60 t553.length co60)) (fun _ hk => hk.2) (.slice Ao61 t556.length co61)) (fun _ h_ => h_.1))) hb); replace HO524 := q_ (Kd.R_below (by (with_reducible repeat (first | apply Kd.R_alloc | apply Kd.R_drewN | apply Kd.R_drew)); exact (Kd.R_mono (Kd.R_far (p := ⟨gb559, 5, none⟩) (Kd.R_far (p := ⟨gb559, 4, none⟩) (Kd.R_far (p := ⟨gb559, 3, none⟩) (Kd.R_far (p := ⟨gb559, 2, none⟩) (Kd.R_far (p := ⟨gb559, 1, none⟩) (Kd.R_far (p := ⟨gb559, 0, none⟩) (Kd.R_types HO524.out BK559.out (by decide)) (fun _ hk => hk.2) (.bool t543)) (fun _ hk => hk.2) (.slice Ao57 t544.length co57)) (fun _ hk => hk.2) (.slice Ao58 t547.length co58)) (fun _ hk => hk.2) (.slice Ao59 t550.length co59)) (fun _ hk => hk.2) (.slice Ao60 t553.length co60)) (fun _ hk => hk.2) (.slice Ao61 t556.length co61)) (fun _ h_ => h_.1))) hb); replace HO529 := q_ (Kd.R_below (by (with_reducible repeat (first | apply Kd.R_alloc | apply Kd.R_drewN | apply Kd.R_drew)); exact (Kd.R_mono (Kd.R_far (p := ⟨gb559, 5, none⟩) (Kd.R_far (p := ⟨gb559, 4, none⟩) (Kd.R_far (p := ⟨gb559, 3, none⟩) (Kd.R_far (p := ⟨gb559, 2, none⟩) (Kd.R_far (p := ⟨gb559, 1, none⟩) (Kd.R_far (p := ⟨gb559, 0, none⟩) (Kd.R_types HO529.out BK559.out (by decide)) (fun _ hk => hk.2) (.bool t543)) (fun _ hk => hk.2) (.slice Ao57 t544.length co57)) (fun _ hk => hk.2) (.slice Ao58 t547.length co58)) (fun _ hk => hk.2) (.slice Ao59 t550.length co59)) (fun _ hk => hk.2) (.slice Ao60 t553.length co60)) (fun _ hk => hk.2) (.slice Ao61 t556.length co61)) (fun _ h_ => h_.1))) hb); replace HO532 := q_ (Kd.R_below (by (with_reducible repeat (first | apply Kd.R_alloc | apply Kd.R_drewN | apply Kd.R_drew)); exact (Kd.R_mono (Kd.R_far (p := ⟨gb559, 5, none⟩) (Kd.R_far (p := ⟨gb559, 4, none⟩) (Kd.R_far (p := ⟨gb559, 3, none⟩) (Kd.R_far (p := ⟨gb559, 2, none⟩) (Kd.R_far (p := ⟨gb559, 1, none⟩) (Kd.R_far (p := ⟨gb559, 0, none⟩) (Kd.R_types HO532.out BK559.out (by decide)) (fun _ hk => hk.2) (.bool t543)) (fun _ hk => hk.2) (.slice Ao57 t544.length co57)) (fun _ hk => hk.2) (.slice Ao58 t547.length co58)) (fun _ hk => hk.2) (.slice Ao59 t550.length co59)) (fun _ hk => hk.2) (.slice Ao60 t553.length co60)) (fun _ hk => hk.2) (.slice Ao61 t556.length co61)) (fun _ h_ => h_.1))) hb); replace HO535 := q_ (Kd.R_below (by (with_reducible repeat (first | apply Kd.R_alloc | apply Kd.R_drewN | apply Kd.R_drew)); exact (Kd.R_mono (Kd.R_far (p := ⟨gb559, 5, none⟩) (Kd.R_far (p := ⟨gb559, 4, none⟩) (Kd.R_far (p := ⟨gb559, 3, none⟩) (Kd.R_far (p := ⟨gb559, 2, none⟩) (Kd.R_far (p := ⟨gb559, 1, none⟩) (Kd.R_far (p := ⟨gb559, 0, none⟩) (Kd.R_types HO535.out BK559.out (by decide)) (fun _ hk => hk.2) (.bool t543)) (fun _ hk => hk.2) (.slice Ao57 t544.length co57)) (fun _ hk => hk.2) (.slice Ao58 t547.length co58)) (fun _ hk => hk.2) (.slice Ao59 t550.length co59)) (fun _ hk => hk.2) (.slice Ao60 t553.length co60)) (fun _ hk => hk.2) (.slice Ao61 t556.length co61)) (fun _ h_ => h_.1))) hb); replace HO538 := q_ (Kd.R_below (by (with_reducible repeat (first | apply Kd.R_alloc | apply Kd.R_drewN | apply Kd.R_drew)); exact (Kd.R_mono (Kd.R_far (p := ⟨gb559, 5, none⟩) (Kd.R_far (p := ⟨gb559, 4, none⟩) (Kd.R_far (p := ⟨gb559, 3, none⟩) (Kd.R_far (p := ⟨gb559, 2, none⟩) (Kd.R_far (p := ⟨gb559, 1, none⟩) (Kd.R_far (p := ⟨gb559, 0, none⟩) (Kd.R_types HO538.out BK559.out (by decide)) (fun _ hk => hk.2) (.bool t543)) (fun _ hk => hk.2) (.slice Ao57 t544.length co57)) (fun _ hk => hk.2) (.slice Ao58 t547.length co58)) (fun _ hk => hk.2) (.slice Ao59 t550.length co59)) (fun _ hk => hk.2) (.slice Ao60 t553.length co60)) (fun _ hk => hk.2) (.slice Ao61 t556.length co61)) (fun _ h_ => h_.1))) hb); replace HO541 := q_ (Kd.R_below (by (with_reducible repeat (first | apply Kd.R_alloc | apply Kd.R_drewN | apply Kd.R_drew)); exact (Kd.R_mono (Kd.R_far (p := ⟨gb559, 5, none⟩) (Kd.R_far (p := ⟨gb559, 4, none⟩) (Kd.R_far (p := ⟨gb559, 3, none⟩) (Kd.R_far (p := ⟨gb559, 2, none⟩) (Kd.R_far (p := ⟨gb559, 1, none⟩) (Kd.R_far (p := ⟨gb559, 0, none⟩) (Kd.R_types HO541.out BK559.out (by decide)) (fun _ hk => hk.2) (.bool t543)) (fun _ hk => hk.2) (.slice Ao57 t544.length co57)) (fun _ hk => hk.2) (.slice Ao58 t547.length co58)) (fun _ hk => hk.2) (.slice Ao59 t550.length co59)) (fun _ hk => hk.2) (.slice Ao60 t553.length co60)) (fun _ hk => hk.2) (.slice Ao61 t556.length co61)) (fun _ h_ => h_.1))) hb); replace HO546 := q_ (Kd.R_below (by (with_reducible repeat (first | apply Kd.R_alloc | apply Kd.R_drewN | apply Kd.R_drew)); exact (Kd.R_mono (Kd.R_far (p := ⟨gb559, 5, none⟩) (Kd.R_far (p := ⟨gb559, 4, none⟩) (Kd.R_far (p := ⟨gb559, 3, none⟩) (Kd.R_far (p := ⟨gb559, 2, none⟩) (Kd.R_far (p := ⟨gb559, 1, none⟩) (Kd.R_far (p := ⟨gb559, 0, none⟩) (Kd.R_types HO546.out BK559.out (by decide)) (fun _ hk => hk.2) (.bool t543)) (fun _ hk => hk.2) (.slice Ao57 t544.length co57)) (fun _ hk => hk.2) (.slice Ao58 t547.length co58)) (fun _ hk => hk.2) (.slice Ao59 t550.length co59)) (fun _ hk => hk.2) (.slice Ao60 t553.length co60)) (fun _ hk => hk.2) (.slice Ao61 t556.length co61)) (fun _ h_ => h_.1))) hb); replace HO549 := q_ (Kd.R_below (by (with_reducible repeat (first | apply Kd.R_alloc | apply Kd.R_drewN | apply Kd.R_drew)); exact (Kd.R_mono (Kd.R_far (p := ⟨gb559, 5, none⟩) (Kd.R_far (p := ⟨gb559, 4, none⟩) (Kd.R_far (p := ⟨gb559, 3, none⟩) (Kd.R_far (p := ⟨gb559, 2, none⟩) (Kd.R_far (p := ⟨gb559, 1, none⟩) (Kd.R_far (p := ⟨gb559, 0, none⟩) (Kd.R_types HO549.out BK559.out (by decide)) (fun _ hk => hk.2) (.bool t543)) (fun _ hk => hk.2) (.slice Ao57 t544.length co57)) (fun _ hk => hk.2) (.slice Ao58 t547.length co58)) (fun _ hk => hk.2) (.slice Ao59 t550.length co59)) (fun _ hk => hk.2) (.slice Ao60 t553.length co60)) (fun _ hk => hk.2) (.slice Ao61 t556.length co61)) (fun _ h_ => h_.1))) hb); replace HO552 := q_ (Kd.R_below (by (with_reducible repeat (first | apply Kd.R_alloc | apply Kd.R_drewN | apply Kd.R_drew)); exact (Kd.R_mono (Kd.R_far (p := ⟨gb559, 5, none⟩) (Kd.R_far (p := ⟨gb559, 4, none⟩) (Kd.R_far (p := ⟨gb559, 3, none⟩) (Kd.R_far (p := ⟨gb559, 2, none⟩) (Kd.R_far (p := ⟨gb559, 1, none⟩) (Kd.R_far (p := ⟨gb559, 0, none⟩) (Kd.R_types HO552.out BK559.out (by decide)) (fun _ hk => hk.2) (.bool t543)) (fun _ hk => hk.2) (.slice Ao57 t544.length co57)) (fun _ hk => hk.2) (.slice Ao58 t547.length co58)) (fun _ hk => hk.2) (.slice Ao59 t550.length co59)) (fun _ hk => hk.2) (.slice Ao60 t553.length co60)) (fun _ hk => hk.2) (.slice Ao61 t556.length co61)) (fun _ h_ => h_.1))) hb); replace HO555 := q_ (Kd.R_below (by (with_reducible repeat (first | apply Kd.R_alloc | apply Kd.R_drewN | apply Kd.R_drew)); exact (Kd.R_mono (Kd.R_far (p := ⟨gb559, 5, none⟩) (Kd.R_far (p := ⟨gb559, 4, none⟩) (Kd.R_far (p := ⟨gb559, 3, none⟩) (Kd.R_far (p := ⟨gb559, 2, none⟩) (Kd.R_far (p := ⟨gb559, 1, none⟩) (Kd.R_far (p := ⟨gb559, 0, none⟩) (Kd.R_types HO555.out BK559.out (by decide)) (fun _ hk => hk.2) (.bool t543)) (fun _ hk => hk.2) (.slice Ao57 t544.length co57)) (fun _ hk => hk.2) (.slice Ao58 t547.length co58)) (fun _ hk => hk.2) (.slice Ao59 t550.length co59)) (fun _ hk => hk.2) (.slice Ao60 t553.length co60)) (fun _ hk => hk.2) (.slice Ao61 t556.length co61)) (fun _ h_ => h_.1))) hb); replace HO558 := q_ (Kd.R_below (by (with_reducible repeat (first | apply Kd.R_alloc | apply Kd.R_drewN | apply Kd.R_drew)); exact (Kd.R_mono (Kd.R_far (p := ⟨gb559, 5, none⟩) (Kd.R_far (p := ⟨gb559, 4, none⟩) (Kd.R_far (p := ⟨gb559, 3, none⟩) (Kd.R_far (p := ⟨gb559, 2, none⟩) (Kd.R_far (p := ⟨gb559, 1, none⟩) (Kd.R_far (p := ⟨gb559, 0, none⟩) (Kd.R_types HO558.out BK559.out (by decide)) (fun _ hk => hk.2) (.bool t543)) (fun _ hk => hk.2) (.slice Ao57 t544.length co57)) (fun _ hk => hk.2) (.slice Ao58 t547.length co58)) (fun _ hk => hk.2) (.slice Ao59 t550.length co59)) (fun _ hk => hk.2) (.slice Ao60 t553.length co60)) (fun _ hk => hk.2) (.slice Ao61 t556.length co61)) (fun _ h_ => h_.1))) hb); replace BK489 := q_ (blk_below (g := gb489) (o := .cells #[.bool a0_0, .slice A0_1 l0_1.length c0_1, .slice A0_2 l0_2.length c0_2, .slice A0_3 l0_3.length c0_3, .slice A0_4 l0_4.length c0_4, .slice A0_5 l0_5.length c0_5] 59 (0, 0)) (by (with_reducible repeat (first | refine blk_drewN ?_ _ | refine blk_drew ?_ | refine blk_alloc ?_ _)); refine blk_far ?_ NB489_559.out _; (with_reducible repeat (first | refine blk_drewN ?_ _ | refine blk_drew ?_ | refine blk_alloc ?_ _)); refine blk_far ?_ NB489_559.out _; (with_reducible repeat (first | refine blk_drewN ?_ _ | refine blk_drew ?_ | refine blk_alloc ?_ _)); refine blk_far ?_ NB489_559.out _; (with_reducible repeat (first | refine blk_drewN ?_ _ | refine blk_drew ?_ | refine blk_alloc ?_ _)); refine blk_far ?_ NB489_559.out _; (with_reducible repeat (first | refine blk_drewN ?_ _ | refine blk_drew ?_ | refine blk_alloc ?_ _)); refine blk_far ?_ NB489_559.out _; (with_reducible repeat (first | refine blk_drewN ?_ _ | refine blk_drew ?_ | refine blk_alloc ?_ _)); refine blk_far ?_ NB489_559.out _; (with_reducible repeat (first | refine blk_drewN ?_ _ | refine blk_drew ?_ | refine blk_alloc ?_ _)); exact BK489.out) hb); replace BK490 := q_ (blk_below (g := gb490) (o := .cells #[.bool a1_0, .slice A1_1 l1_1.length c1_1, .slice A1_2 l1_2.length c1_2, .slice A1_3 l1_3.length c1_3, .slice A1_4 l1_4.length c1_4, .slice A1_5 l1_5.length c1_5] 59 (0, 0)) (by (with_reducible repeat (first | refine blk_drewN ?_ _ | refine blk_drew ?_ | refine blk_alloc ?_ _)); refine blk_far ?_ NB490_559.out _; (with_reducible repeat (first | refine blk_drewN ?_ _ | refine blk_drew ?_ | refine blk_alloc ?_ _)); refine blk_far ?_ NB490_559.out _; (with_reducible repeat (first | refine blk_drewN ?_ _ | refine blk_drew ?_ | refine blk_alloc ?_ _)); refine blk_far ?_ NB490_559.out _; (with_reducible repeat (first | refine blk_drewN ?_ _ | refine blk_drew ?_ | refine blk_alloc ?_ _)); refine blk_far ?_ NB490_559.out _; (with_reducible repeat (first | refine blk_drewN ?_ _ | refine blk_drew ?_ | refine blk_alloc ?_ _)); refine blk_far ?_ NB490_559.out _; (with_reducible repeat (first | refine blk_drewN ?_ _ | refine blk_drew ?_ | refine blk_alloc ?_ _)); refine blk_far ?_ NB490_559.out _; (with_reducible repeat (first | refine blk_drewN ?_ _ | refine blk_drew ?_ | refine blk_alloc ?_ _)); exact BK490.out) hb); replace BK542 := q_ (blk_below (g := gb542) (o := .cells #[.bool t526, .slice Ao45 t527.length co45, .slice Ao46 t530.length co46, .slice Ao47 t533.length co47, .slice Ao48 t536.length co48, .slice Ao49 t539.length co49] 64 (0, 0)) (by (with_reducible repeat (first | refine blk_drewN ?_ _ | refine blk_drew ?_ | refine blk_alloc ?_ _)); refine blk_far ?_ NB542_559.out _; (with_reducible repeat (first | refine blk_drewN ?_ _ | refine blk_drew ?_ | refine blk_alloc ?_ _)); refine blk_far ?_ NB542_559.out _; (with_reducible repeat (first | refine blk_drewN ?_ _ | refine blk_drew ?_ | refine blk_alloc ?_ _)); refine blk_far ?_ NB542_559.out _; (with_reducible repeat (first | refine blk_drewN ?_ _ | refine blk_drew ?_ | refine blk_alloc ?_ _)); refine blk_far ?_ NB542_559.out _; (with_reducible repeat (first | refine blk_drewN ?_ _ | refine blk_drew ?_ | refine blk_alloc ?_ _)); refine blk_far ?_ NB542_559.out _; (with_reducible repeat (first | refine blk_drewN ?_ _ | refine blk_drew ?_ | refine blk_alloc ?_ _)); refine blk_far ?_ NB542_559.out _; (with_reducible repeat (first | refine blk_drewN ?_ _ | refine blk_drew ?_ | refine blk_alloc ?_ _)); exact BK542.out) hb); replace BK559 := q_ (blk_below (g := gb559) (o := .cells #[.bool t543, .slice Ao57 t544.length co57, .slice Ao58 t547.length co58, .slice Ao59 t550.length co59, .slice Ao60 t553.length co60, .slice Ao61 t556.length co61] 64 (0, 0)) (by (with_reducible repeat (first | refine blk_drewN ?_ _ | refine blk_drew ?_ | refine blk_alloc ?_ _)); refine blk_put (cs := #[.bool t543, .slice Ao57 t544.length co57, .slice Ao58 t547.length co58, .slice Ao59 t550.length co59, .slice Ao60 t553.length co60, .slice none 0 0]) ?_ 5 _ rfl; (with_reducible repeat (first | refine blk_drewN ?_ _ | refine blk_drew ?_ | refine blk_alloc ?_ _)); refine blk_put (cs := #[.bool t543, .slice Ao57 t544.length co57, .slice Ao58 t547.length co58, .slice Ao59 t550.length co59, .slice none 0 0, .slice none 0 0]) ?_ 4 _ rfl; (with_reducible repeat (first | refine blk_drewN ?_ _ | refine blk_drew ?_ | refine blk_alloc ?_ _)); refine blk_put (cs := #[.bool t543, .slice Ao57 t544.length co57, .slice Ao58 t547.length co58, .slice none 0 0, .slice none 0 0, .slice none 0 0]) ?_ 3 _ rfl; (with_reducible repeat (first | refine blk_drewN ?_ _ | refine blk_drew ?_ | refine blk_alloc ?_ _)); refine blk_put (cs := #[.bool t543, .slice Ao57 t544.length co57, .slice none 0 0, .slice none 0 0, .slice none 0 0, .slice none 0 0]) ?_ 2 _ rfl; (with_reducible repeat (first | refine blk_drewN ?_ _ | refine blk_drew ?_ | refine blk_alloc ?_ _)); refine blk_put (cs := #[.bool t543, .slice none 0 0, .slice none 0 0, .slice none 0 0, .slice none 0 0, .slice none 0 0]) ?_ 1 _ rfl; (with_reducible repeat (first | refine blk_drewN ?_ _ | refine blk_drew ?_ | refine blk_alloc ?_ _)); refine blk_put (cs := #[.bool false, .slice none 0 0, .slice none 0 0, .slice none 0 0, .slice none 0 0, .slice none 0 0]) ?_ 0 _ rfl; (with_reducible repeat (first | refine blk_drewN ?_ _ | refine blk_drew ?_ | refine blk_alloc ?_ _)); exact BK559.out) hb); replace HB := hb_ hb; (try clear hb); (try clear hb2); (try clear hk); (try clear hi)))
   (try simp only [Act.put, List.setIfInBounds_toArray, List.set_cons_zero, List.set_cons_succ])
   have H := HC23.out
   clear HC23
   by_cases c64 : (t560 != t525) = true
   ·rw [if_pos c64] at H
    have c64b0 : (t560 != t525) = true := c64
    (try (have c64b1 : decide (t560 = t525) = false := z85_))
    (try (have c64b2 : (t560 == t525) = false := z85_))
    (try (have c64b3 : ¬ (t560 = t525) := z85_))
    clear c64
    (first | rw [c64b0] | rw [c64b1] | (simp only [i64_w, i32_w]; first | rw [c64b0] | rw [c64b1]) | rw [c64b2] | skip)
    obtain rfl := si_ H
    go_wp2
    go_ret
    exact ⟨z1_, cb_⟩
   ·rw [if_neg c64] at H
    have c64b0 : (t560 != t525) = false := z85_
    (try (have c64b1 : decide (t560 = t525) = true := z85_))
    (try (have c64b2 : (t560 == t525) = true := z85_))
    clear c64
    (first | rw [c64b0] | rw [c64b1] | (simp only [i64_w, i32_w]; first | rw [c64b0] | rw [c64b1]) | rw [c64b2] | skip)
    replace H := bi_ H; obtain ⟨⟨t561, t562, t565, t568, t571, t574⟩, A65, H⟩ := H
    (try dsimp only at H)
    replace H := bi_ H; obtain ⟨t577, A66, H⟩ := H
    have HC67 := q_ H
    clear H
    try go_wp2
    replace HO496 := q_ (Kd.R_drew HO496.out)
    replace HO499 := q_ (Kd.R_drew HO499.out)
    replace HO502 := q_ (Kd.R_drew HO502.out)
    replace HO505 := q_ (Kd.R_drew HO505.out)
    replace HO508 := q_ (Kd.R_drew HO508.out)
    replace HO512 := q_ (Kd.R_drew HO512.out)
    replace HO515 := q_ (Kd.R_drew HO515.out)
    replace HO518 := q_ (Kd.R_drew HO518.out)
    replace HO521 := q_ (Kd.R_drew HO521.out)
    replace HO524 := q_ (Kd.R_drew HO524.out)
    replace HO529 := q_ (Kd.R_drew HO529.out)
    replace HO532 := q_ (Kd.R_drew HO532.out)
    replace HO535 := q_ (Kd.R_drew HO535.out)
    replace HO538 := q_ (Kd.R_drew HO538.out)
    replace HO541 := q_ (Kd.R_drew HO541.out)
    replace HO546 := q_ (Kd.R_drew HO546.out)
    replace HO549 := q_ (Kd.R_drew HO549.out)
    replace HO552 := q_ (Kd.R_drew HO552.out)
    replace HO555 := q_ (Kd.R_drew HO555.out)
    replace HO558 := q_ (Kd.R_drew HO558.out)
    replace BK489 := q_ (blk_drew BK489.out)
    replace BK490 := q_ (blk_drew BK490.out)
    replace BK542 := q_ (blk_drew BK542.out)
    replace BK559 := q_ (blk_drew BK559.out)
    replace HB := q_ (below_drew1 HB.out)
    refine start_ (n := 5) (S := fun w' => w'.cell? ⟨gb542, 0, none⟩ = some (.bool t526) ∧ w'.cell? ⟨gb542, 1, none⟩ = some (.slice Ao45 t527.length co45) ∧ w'.cell? ⟨gb542, 2, none⟩ = some (.slice Ao46 t530.length co46) ∧ w'.cell? ⟨gb542, 3, none⟩ = some (.slice Ao47 t533.length co47) ∧ w'.cell? ⟨gb542, 4, none⟩ = some (.slice Ao48 t536.length co48) ∧ w'.cell? ⟨gb542, 5, none⟩ = some (.slice Ao49 t539.length co49) ∧ w'.cell? ⟨gb489, 0, none⟩ = some (.bool a0_0) ∧ w'.cell? ⟨gb489, 1, none⟩ = some (.slice A0_1 l0_1.length c0_1) ∧ w'.cell? ⟨gb489, 2, none⟩ = some (.slice A0_2 l0_2.length c0_2) ∧ w'.cell? ⟨gb489, 3, none⟩ = some (.slice A0_3 l0_3.length c0_3) ∧ w'.cell? ⟨gb489, 4, none⟩ = some (.slice A0_4 l0_4.length c0_4) ∧ w'.cell? ⟨gb489, 5, none⟩ = some (.slice A0_5 l0_5.length c0_5)) (ds := []) (tf 0 5) (by kernel_rfl) rfl rfl ⟨(blk_cell BK542.out 0).trans rfl, (blk_cell BK542.out 1).trans rfl, (blk_cell BK542.out 2).trans rfl, (blk_cell BK542.out 3).trans rfl, (blk_cell BK542.out 4).trans rfl, (blk_cell BK542.out 5).trans rfl, (blk_cell BK489.out 0).trans rfl, (blk_cell BK489.out 1).trans rfl, (blk_cell BK489.out 2).trans rfl, (blk_cell BK489.out 3).trans rfl, (blk_cell BK489.out 4).trans rfl, (blk_cell BK489.out 5).trans rfl⟩ (fun hHeld => ?_)
    generalize w63.drew = w68 at HO496 HO499 HO502 HO505 HO508 HO512 HO515 HO518 HO521 HO524 HO529 HO532 HO535 HO538 HO541 HO546 HO549 HO552 HO555 HO558 BK489 BK490 BK542 BK559 HB hHeld ⊢
    refine take_ (i := 0) (N := some 35) (v := ?_) (a' := ?_) (tf 1 4) rfl rfl (by kernel_rfl) (fun _ _ _ h => h) (Or.inl ⟨by rfl, ?_⟩) hHeld ?_ ?_
    rotate_left
    ·rintro w' ⟨s0, s1, s2, s3, s4, s5, s6, s7, s8, s9, s10, s11⟩
     go_simp
     with_reducible rfl
    rotate_left
    ·simp only [Act.put, List.setIfInBounds_toArray, List.set_cons_zero, List.set_cons_succ, i64_w, i32_w]
     rfl
    refine take_ (i := 1) (N := some 36) (v := ?_) (a' := ?_) (tf 2 3) rfl rfl (by kernel_rfl) (fun _ _ _ h => h) (Or.inl ⟨by rfl, ?_⟩) hHeld ?_ ?_
    rotate_left
    ·rintro w' ⟨s0, s1, s2, s3, s4, s5, s6, s7, s8, s9, s10, s11⟩
     go_simp
     with_reducible rfl
    rotate_left
    ·simp only [Act.put, List.setIfInBounds_toArray, List.set_cons_zero, List.set_cons_succ, i64_w, i32_w]
     rfl
    refine one_ (i := 2) (N := some 37) (tf 3 2) rfl rfl (by kernel_rfl) (by decide) (fun K hK => ?_)
    refine goes_ Try.func45 (by kernel_rfl) rfl #[.agg #[.bool a0_0, .slice A0_1 l0_1.length c0_1, .slice A0_2 l0_2.length c0_2, .slice A0_3 l0_3.length c0_3, .slice A0_4 l0_4.length c0_4, .slice A0_5 l0_5.length c0_5]] (by rfl) rfl rfl z0_ ?_
    with_reducible refine (laws_toMachine.calls k a0_0 _ _ l0_1 _ _ l0_2 _ _ l0_3 _ _ l0_4 _ _ l0_5 t561 t562 t565 t568 t571 t574 _ ?side1 ?side2 ?side3 ?side4 ?side5 ?side6 ?side7 ?side8 ?side9 ?side10 A65.out).mono ?_
    (case side1 => exact z90_)
    (case side2 => exact z115_)
    (case side3 => exact z93_)
    (case side4 => exact z121_)
    (case side5 => exact z94_)
    (case side6 => exact z122_)
    (case side7 => exact z91_)
    (case side8 => exact z119_)
    (case side9 => exact z100_)
    (case side10 => exact HC0_5.out)
    rintro e w69 ⟨v563, v566, v569, v572, v575, rfl, ho0, ho1, ho2, ho3, ho4, hb⟩
    refine ⟨_, rfl, ?_⟩
    have HO564 := q_ (Kd.R_lower (Kd.R_new' (Kd.R_new' (Kd.R_new' (Kd.R_new' ho0 (Kd.R_lt z9_)) (Kd.R_lt z14_)) (Kd.R_lt z27_)) (Kd.R_lt z31_)) (below_size cb_))
    have HO567 := q_ (Kd.R_lower (Kd.R_new' (Kd.R_new' (Kd.R_new' (Kd.R_new' ho1 (Kd.R_lt z10_)) (Kd.R_lt z15_)) (Kd.R_lt z28_)) (Kd.R_lt z32_)) (below_size cb_))
    have HO570 := q_ (Kd.R_lower (Kd.R_new' (Kd.R_new' (Kd.R_new' (Kd.R_new' (Kd.R_new' (Kd.R_new' (Kd.R_new' (Kd.R_new' (Kd.R_new' (Kd.R_new' (Kd.R_new' (Kd.R_new' (Kd.R_new' (Kd.R_new' (Kd.R_new' (Kd.R_new' ho2 (Kd.R_lt z9_)) (Kd.R_lt z10_)) (Kd.R_lt z17_)) (Kd.R_lt z11_)) (Kd.R_lt z14_)) (Kd.R_lt z15_)) (Kd.R_lt z25_)) (Kd.R_lt z16_)) (Kd.R_lt z27_)) (Kd.R_lt z28_)) (Kd.R_lt z35_)) (Kd.R_lt z29_)) (Kd.R_lt z31_)) (Kd.R_lt z32_)) (Kd.R_lt z38_)) (Kd.R_lt z33_)) (below_size cb_))
    replace HO496 := q_ (Kd.R_elder' z9_ (Kd.R_base ho0) hb)
    replace HO499 := q_ (Kd.R_elder' z10_ (Kd.R_base ho1) hb)
    replace HO502 := q_ (Kd.R_mono (Kd.R_told (Kd.R_told (Kd.R_told (Kd.R_told (Kd.R_old z17_ hb) (Kd.R_base ho0)) (Kd.R_base ho1)) (Kd.R_base ho2)) (Kd.R_base ho3)) (fun _ h_ => h_.1))
    replace HO512 := q_ (Kd.R_elder' z14_ (Kd.R_base ho0) hb)
    replace HO515 := q_ (Kd.R_elder' z15_ (Kd.R_base ho1) hb)
    replace HO518 := q_ (Kd.R_mono (Kd.R_told (Kd.R_told (Kd.R_told (Kd.R_told (Kd.R_old z25_ hb) (Kd.R_base ho0)) (Kd.R_base ho1)) (Kd.R_base ho2)) (Kd.R_base ho3)) (fun _ h_ => h_.1))
    replace HO529 := q_ (Kd.R_elder' z27_ (Kd.R_base ho0) hb)
    replace HO532 := q_ (Kd.R_elder' z28_ (Kd.R_base ho1) hb)
    replace HO535 := q_ (Kd.R_mono (Kd.R_told (Kd.R_told (Kd.R_told (Kd.R_told (Kd.R_old z35_ hb) (Kd.R_base ho0)) (Kd.R_base ho1)) (Kd.R_base ho2)) (Kd.R_base ho3)) (fun _ h_ => h_.1))
    replace HO546 := q_ (Kd.R_elder' z31_ (Kd.R_base ho0) hb)
    replace HO549 := q_ (Kd.R_elder' z32_ (Kd.R_base ho1) hb)
    replace HO552 := q_ (Kd.R_mono (Kd.R_told (Kd.R_told (Kd.R_told (Kd.R_told (Kd.R_old z38_ hb) (Kd.R_base ho0)) (Kd.R_base ho1)) (Kd.R_base ho2)) (Kd.R_base ho3)) (fun _ h_ => h_.1))
    have HO573 := q_ (Kd.R_lower (Kd.R_new' (Kd.R_new' (Kd.R_new' (Kd.R_new' ho3 (Kd.R_lt z11_)) (Kd.R_lt z16_)) (Kd.R_lt z29_)) (Kd.R_lt z33_)) (below_size cb_))
    replace HO505 := q_ (Kd.R_elder' z11_ (Kd.R_base ho3) hb)
    replace HO521 := q_ (Kd.R_elder' z16_ (Kd.R_base ho3) hb)
    replace HO538 := q_ (Kd.R_elder' z29_ (Kd.R_base ho3) hb)
    replace HO555 := q_ (Kd.R_elder' z33_ (Kd.R_base ho3) hb)
    have HO576 := q_ (Kd.R_lower (Kd.R_new' (Kd.R_new' (Kd.R_new' (Kd.R_new' ho4 (Kd.R_lt z18_)) (Kd.R_lt z26_)) (Kd.R_lt z36_)) (Kd.R_lt z39_)) (below_size cb_))
    replace HO508 := q_ (Kd.R_elder' z18_ (Kd.R_base ho4) hb)
    replace HO524 := q_ (Kd.R_elder' z26_ (Kd.R_base ho4) hb)
    replace HO541 := q_ (Kd.R_elder' z36_ (Kd.R_base ho4) hb)
    replace HO558 := q_ (Kd.R_elder' z39_ (Kd.R_base ho4) hb)
    replace BK489 := rb_ BK489 hb
    replace BK490 := rb_ BK490 hb
    replace BK542 := rb_ BK542 hb
    replace BK559 := rb_ BK559 hb
    replace HB := hb_ hb
    (try clear hb)
    (try clear hb2)
    (try clear hk)
    (try clear hi)
    (try clear ho0)
    (try clear ho1)
    (try clear ho2)
    (try clear ho3)
    (try clear ho4)
    obtain ⟨Ao70, co70, eo70⟩ := Kd.R_slice HO564.out
    (first | subst eo70 | (injection eo70 with f1_ f2_ f3_; have f4_ := f1_.symm; have f5_ := f3_.symm; clear f1_ f2_ f3_; subst f4_; subst f5_))
    obtain ⟨Ao71, co71, eo71⟩ := Kd.R_slice HO567.out
    (first | subst eo71 | (injection eo71 with f1_ f2_ f3_; have f4_ := f1_.symm; have f5_ := f3_.symm; clear f1_ f2_ f3_; subst f4_; subst f5_))
    obtain ⟨Ao72, co72, eo72⟩ := Kd.R_slice HO570.out
    (first | subst eo72 | (injection eo72 with f1_ f2_ f3_; have f4_ := f1_.symm; have f5_ := f3_.symm; clear f1_ f2_ f3_; subst f4_; subst f5_))
    obtain ⟨Ao73, co73, eo73⟩ := Kd.R_slice HO573.out
    (first | subst eo73 | (injection eo73 with f1_ f2_ f3_; have f4_ := f1_.symm; have f5_ := f3_.symm; clear f1_ f2_ f3_; subst f4_; subst f5_))
    obtain ⟨Ao74, co74, eo74⟩ := Kd.R_slice HO576.out
    (first | subst eo74 | (injection eo74 with f1_ f2_ f3_; have f4_ := f1_.symm; have f5_ := f3_.symm; clear f1_ f2_ f3_; subst f4_; subst f5_))
    refine hK.out _ _ ⟨(blk_cell BK542.out 0).trans rfl, (blk_cell BK542.out 1).trans rfl, (blk_cell BK542.out 2).trans rfl, (blk_cell BK542.out 3).trans rfl, (blk_cell BK542.out 4).trans rfl, (blk_cell BK542.out 5).trans rfl, (blk_cell BK489.out 0).trans rfl, (blk_cell BK489.out 1).trans rfl, (blk_cell BK489.out 2).trans rfl, (blk_cell BK489.out 3).trans rfl, (blk_cell BK489.out 4).trans rfl, (blk_cell BK489.out 5).trans rfl⟩ (fun hHeld => ?_)
    clear hK K
    refine norm_ (a' := ?_) ?_ ?_
    rotate_left
    ·show Act.put _ (some 37) _ = _
     simp only [Act.put, List.setIfInBounds_toArray, List.set_cons_zero, List.set_cons_succ, i64_w, i32_w]
     rfl
    refine one_ (i := 3) (N := some 38) (tf 4 1) rfl rfl (by kernel_rfl) (by decide) (fun K hK => ?_)
    refine goes_ Try.func47 (by kernel_rfl) rfl #[.agg #[.bool t526, .slice Ao45 t527.length co45, .slice Ao46 t530.length co46, .slice Ao47 t533.length co47, .slice Ao48 t536.length co48, .slice Ao49 t539.length co49], .agg #[.bool t561, .slice Ao70 t562.length co70, .slice Ao71 t565.length co71, .slice Ao72 t568.length co72, .slice Ao73 t571.length co73, .slice Ao74 t574.length co74]] (by rfl) rfl rfl z0_ ?_
    with_reducible refine (laws_eqMachine.calls k t526 _ _ t527 _ _ t530 _ _ t533 _ _ t536 _ _ t539 t561 _ _ t562 _ _ t565 _ _ t568 _ _ t571 _ _ t574 t577 _ ?side1 ?side2 ?side3 ?side4 ?side5 ?side6 ?side7 ?side8 ?side9 ?side10 ?side11 ?side12 ?side13 ?side14 ?side15 ?side16 ?side17 ?side18 ?side19 ?side20 A66.out).mono ?_
    (case side1 => repeat (first | exact (Kd.R_reads' HO529.out).2.2 | (with_reducible refine Kd.C_alloc ?_ _) | (with_reducible refine Kd.C_drewN ?_ _) | (with_reducible refine Kd.C_drew ?_)))
    (case side2 => exact (Kd.R_reads' HO529.out).2.1)
    (case side3 => repeat (first | exact (Kd.R_reads' HO532.out).2.2 | (with_reducible refine Kd.C_alloc ?_ _) | (with_reducible refine Kd.C_drewN ?_ _) | (with_reducible refine Kd.C_drew ?_)))
    (case side4 => exact (Kd.R_reads' HO532.out).2.1)
    (case side5 => repeat (first | exact (Kd.R_reads' HO535.out).2.2 | (with_reducible refine Kd.C_alloc ?_ _) | (with_reducible refine Kd.C_drewN ?_ _) | (with_reducible refine Kd.C_drew ?_)))
    (case side6 => exact (Kd.R_reads' HO535.out).2.1)
    (case side7 => repeat (first | exact (Kd.R_reads' HO538.out).2.2 | (with_reducible refine Kd.C_alloc ?_ _) | (with_reducible refine Kd.C_drewN ?_ _) | (with_reducible refine Kd.C_drew ?_)))
    (case side8 => exact (Kd.R_reads' HO538.out).2.1)
    (case side9 => repeat (first | exact (Kd.R_reads' HO541.out).2.2 | (with_reducible refine Kd.C_alloc ?_ _) | (with_reducible refine Kd.C_drewN ?_ _) | (with_reducible refine Kd.C_drew ?_)))
    (case side10 => exact (Kd.R_reads' HO541.out).2.1)
    (case side11 => repeat (first | exact (Kd.R_reads' HO564.out).2.2 | (with_reducible refine Kd.C_alloc ?_ _) | (with_reducible refine Kd.C_drewN ?_ _) | (with_reducible refine Kd.C_drew ?_)))
    (case side12 => exact (Kd.R_reads' HO564.out).2.1)
    (case side13 => repeat (first | exact (Kd.R_reads' HO567.out).2.2 | (with_reducible refine Kd.C_alloc ?_ _) | (with_reducible refine Kd.C_drewN ?_ _) | (with_reducible refine Kd.C_drew ?_)))
    (case side14 => exact (Kd.R_reads' HO567.out).2.1)
    (case side15 => repeat (first | exact (Kd.R_reads' HO570.out).2.2 | (with_reducible refine Kd.C_alloc ?_ _) | (with_reducible refine Kd.C_drewN ?_ _) | (with_reducible refine Kd.C_drew ?_)))
    (case side16 => exact (Kd.R_reads' HO570.out).2.1)
    (case side17 => repeat (first | exact (Kd.R_reads' HO573.out).2.2 | (with_reducible refine Kd.C_alloc ?_ _) | (with_reducible refine Kd.C_drewN ?_ _) | (with_reducible refine Kd.C_drew ?_)))
    (case side18 => exact (Kd.R_reads' HO573.out).2.1)
    (case side19 => repeat (first | exact (Kd.R_reads' HO576.out).2.2 | (with_reducible refine Kd.C_alloc ?_ _) | (with_reducible refine Kd.C_drewN ?_ _) | (with_reducible refine Kd.C_drew ?_)))
    (case side20 => exact (Kd.R_reads' HO576.out).2.1)
    rintro e w75 ⟨rfl, hb⟩
    refine ⟨_, rfl, ?_⟩
    replace HO496 := q_ (Kd.R_below z9_ hb)
    replace HO499 := q_ (Kd.R_below z10_ hb)
    replace HO502 := q_ (Kd.R_below z17_ hb)
    replace HO505 := q_ (Kd.R_below z11_ hb)
    replace HO508 := q_ (Kd.R_below z18_ hb)
    replace HO512 := q_ (Kd.R_below z14_ hb)
    replace HO515 := q_ (Kd.R_below z15_ hb)
    replace HO518 := q_ (Kd.R_below z25_ hb)
    replace HO521 := q_ (Kd.R_below z16_ hb)
    replace HO524 := q_ (Kd.R_below z26_ hb)
    replace HO529 := q_ (Kd.R_below z27_ hb)
    replace HO532 := q_ (Kd.R_below z28_ hb)
    replace HO535 := q_ (Kd.R_below z35_ hb)
    replace HO538 := q_ (Kd.R_below z29_ hb)
    replace HO541 := q_ (Kd.R_below z36_ hb)
    replace HO546 := q_ (Kd.R_below z31_ hb)
    replace HO549 := q_ (Kd.R_below z32_ hb)
    replace HO552 := q_ (Kd.R_below z38_ hb)
    replace HO555 := q_ (Kd.R_below z33_ hb)
    replace HO558 := q_ (Kd.R_below z39_ hb)
    replace HO564 := q_ (Kd.R_below z48_ hb)
    replace HO567 := q_ (Kd.R_below z49_ hb)
    replace HO570 := q_ (Kd.R_below z62_ hb)
    replace HO573 := q_ (Kd.R_below z50_ hb)
    replace HO576 := q_ (Kd.R_below z63_ hb)
    replace BK489 := rb_ BK489 hb
    replace BK490 := rb_ BK490 hb
    replace BK542 := rb_ BK542 hb
    replace BK559 := rb_ BK559 hb
    replace HB := hb_ hb
    (try clear hb)
    (try clear hb2)
    (try clear hk)
    (try clear hi)
    refine hK.out _ _ ⟨(blk_cell BK542.out 0).trans rfl, (blk_cell BK542.out 1).trans rfl, (blk_cell BK542.out 2).trans rfl, (blk_cell BK542.out 3).trans rfl, (blk_cell BK542.out 4).trans rfl, (blk_cell BK542.out 5).trans rfl, (blk_cell BK489.out 0).trans rfl, (blk_cell BK489.out 1).trans rfl, (blk_cell BK489.out 2).trans rfl, (blk_cell BK489.out 3).trans rfl, (blk_cell BK489.out 4).trans rfl, (blk_cell BK489.out 5).trans rfl⟩ (fun hHeld => ?_)
    clear hK K
    refine norm_ (a' := ?_) ?_ ?_
    rotate_left
    ·show Act.put _ (some 38) _ = _
     simp only [Act.put, List.setIfInBounds_toArray, List.set_cons_zero, List.set_cons_succ, i64_w, i32_w]
     rfl
    refine pure_ (i := 4) (N := some 39) (v := ?_) (a' := ?_) (tf 5 0) rfl rfl (by kernel_rfl) (fun _ _ _ h => h) (Or.inl ⟨by rfl, ?_⟩) ?_ ?_
    rotate_left
    ·intro w'
     go_simp
     with_reducible rfl
    rotate_left
    ·simp only [Act.put, List.setIfInBounds_toArray, List.set_cons_zero, List.set_cons_succ, i64_w, i32_w]
     rfl
    refine done_ (by kernel_rfl) ?_
    go_upto_if 39 with (fail)
    have H := HC67.out
    clear HC67
    replace H := kb_ H; rcases H with ⟨rfl, H⟩ | ⟨rfl, H⟩
    ·replace H := bi_ H; obtain ⟨⟨t578, t579, t582, t585, t588, t591⟩, A77, H⟩ := H
     (try dsimp only at H)
     replace H := bi_ H; obtain ⟨t594, A78, H⟩ := H
     have HC79 := q_ H
     clear H
     try go_wp2
     replace HO496 := q_ (Kd.R_drew HO496.out)
     replace HO499 := q_ (Kd.R_drew HO499.out)
     replace HO502 := q_ (Kd.R_drew HO502.out)
     replace HO505 := q_ (Kd.R_drew HO505.out)
     replace HO508 := q_ (Kd.R_drew HO508.out)
     replace HO512 := q_ (Kd.R_drew HO512.out)
     replace HO515 := q_ (Kd.R_drew HO515.out)
     replace HO518 := q_ (Kd.R_drew HO518.out)
     replace HO521 := q_ (Kd.R_drew HO521.out)
     replace HO524 := q_ (Kd.R_drew HO524.out)
     replace HO529 := q_ (Kd.R_drew HO529.out)
     replace HO532 := q_ (Kd.R_drew HO532.out)
     replace HO535 := q_ (Kd.R_drew HO535.out)
     replace HO538 := q_ (Kd.R_drew HO538.out)
     replace HO541 := q_ (Kd.R_drew HO541.out)
     replace HO546 := q_ (Kd.R_drew HO546.out)
     replace HO549 := q_ (Kd.R_drew HO549.out)
     replace HO552 := q_ (Kd.R_drew HO552.out)
     replace HO555 := q_ (Kd.R_drew HO555.out)
     replace HO558 := q_ (Kd.R_drew HO558.out)
     replace HO564 := q_ (Kd.R_drew HO564.out)
     replace HO567 := q_ (Kd.R_drew HO567.out)
     replace HO570 := q_ (Kd.R_drew HO570.out)
     replace HO573 := q_ (Kd.R_drew HO573.out)
     replace HO576 := q_ (Kd.R_drew HO576.out)
     replace BK489 := q_ (blk_drew BK489.out)
     replace BK490 := q_ (blk_drew BK490.out)
     replace BK542 := q_ (blk_drew BK542.out)
     replace BK559 := q_ (blk_drew BK559.out)
     replace HB := q_ (below_drew1 HB.out)
     refine start_ (n := 5) (S := fun w' => w'.cell? ⟨gb559, 0, none⟩ = some (.bool t543) ∧ w'.cell? ⟨gb559, 1, none⟩ = some (.slice Ao57 t544.length co57) ∧ w'.cell? ⟨gb559, 2, none⟩ = some (.slice Ao58 t547.length co58) ∧ w'.cell? ⟨gb559, 3, none⟩ = some (.slice Ao59 t550.length co59) ∧ w'.cell? ⟨gb559, 4, none⟩ = some (.slice Ao60 t553.length co60) ∧ w'.cell? ⟨gb559, 5, none⟩ = some (.slice Ao61 t556.length co61) ∧ w'.cell? ⟨gb490, 0, none⟩ = some (.bool a1_0) ∧ w'.cell? ⟨gb490, 1, none⟩ = some (.slice A1_1 l1_1.length c1_1) ∧ w'.cell? ⟨gb490, 2, none⟩ = some (.slice A1_2 l1_2.length c1_2) ∧ w'.cell? ⟨gb490, 3, none⟩ = some (.slice A1_3 l1_3.length c1_3) ∧ w'.cell? ⟨gb490, 4, none⟩ = some (.slice A1_4 l1_4.length c1_4) ∧ w'.cell? ⟨gb490, 5, none⟩ = some (.slice A1_5 l1_5.length c1_5)) (ds := []) (tf 0 5) (by kernel_rfl) rfl rfl ⟨(blk_cell BK559.out 0).trans rfl, (blk_cell BK559.out 1).trans rfl, (blk_cell BK559.out 2).trans rfl, (blk_cell BK559.out 3).trans rfl, (blk_cell BK559.out 4).trans rfl, (blk_cell BK559.out 5).trans rfl, (blk_cell BK490.out 0).trans rfl, (blk_cell BK490.out 1).trans rfl, (blk_cell BK490.out 2).trans rfl, (blk_cell BK490.out 3).trans rfl, (blk_cell BK490.out 4).trans rfl, (blk_cell BK490.out 5).trans rfl⟩ (fun hHeld => ?_)
     generalize w75.drew = w80 at HO496 HO499 HO502 HO505 HO508 HO512 HO515 HO518 HO521 HO524 HO529 HO532 HO535 HO538 HO541 HO546 HO549 HO552 HO555 HO558 HO564 HO567 HO570 HO573 HO576 BK489 BK490 BK542 BK559 HB hHeld ⊢
     refine take_ (i := 0) (N := some 40) (v := ?_) (a' := ?_) (tf 1 4) rfl rfl (by kernel_rfl) (fun _ _ _ h => h) (Or.inl ⟨by rfl, ?_⟩) hHeld ?_ ?_
     rotate_left
     ·rintro w' ⟨s0, s1, s2, s3, s4, s5, s6, s7, s8, s9, s10, s11⟩
      go_simp
      with_reducible rfl
     rotate_left
     ·simp only [Act.put, List.setIfInBounds_toArray, List.set_cons_zero, List.set_cons_succ, i64_w, i32_w]
      rfl
     refine take_ (i := 1) (N := some 41) (v := ?_) (a' := ?_) (tf 2 3) rfl rfl (by kernel_rfl) (fun _ _ _ h => h) (Or.inl ⟨by rfl, ?_⟩) hHeld ?_ ?_
     rotate_left
     ·rintro w' ⟨s0, s1, s2, s3, s4, s5, s6, s7, s8, s9, s10, s11⟩
      go_simp
      with_reducible rfl
     rotate_left
     ·simp only [Act.put, List.setIfInBounds_toArray, List.set_cons_zero, List.set_cons_succ, i64_w, i32_w]
      rfl
     refine one_ (i := 2) (N := some 42) (tf 3 2) rfl rfl (by kernel_rfl) (by decide) (fun K hK => ?_)
     refine goes_ Try.func45 (by kernel_rfl) rfl #[.agg #[.bool a1_0, .slice A1_1 l1_1.length c1_1, .slice A1_2 l1_2.length c1_2, .slice A1_3 l1_3.length c1_3, .slice A1_4 l1_4.length c1_4, .slice A1_5 l1_5.length c1_5]] (by rfl) rfl rfl z0_ ?_
     with_reducible refine (laws_toMachine.calls k a1_0 _ _ l1_1 _ _ l1_2 _ _ l1_3 _ _ l1_4 _ _ l1_5 t578 t579 t582 t585 t588 t591 _ ?side1 ?side2 ?side3 ?side4 ?side5 ?side6 ?side7 ?side8 ?side9 ?side10 A77.out).mono ?_
     (case side1 => exact z95_)
     (case side2 => exact HC1_1.out)
     (case side3 => exact z96_)
     (case side4 => exact HC1_2.out)
     (case side5 => exact z98_)
     (case side6 => exact HC1_3.out)
     (case side7 => exact z97_)
     (case side8 => exact HC1_4.out)
     (case side9 => exact z101_)
     (case side10 => exact HC1_5.out)
     rintro e w81 ⟨v580, v583, v586, v589, v592, rfl, ho0, ho1, ho2, ho3, ho4, hb⟩
     refine ⟨_, rfl, ?_⟩
     have HO581 := q_ (Kd.R_lower (Kd.R_new' (Kd.R_new' (Kd.R_new' (Kd.R_new' (Kd.R_new' ho0 (Kd.R_lt z9_)) (Kd.R_lt z14_)) (Kd.R_lt z27_)) (Kd.R_lt z31_)) (Kd.R_lt z48_)) (below_size cb_))
     have HO584 := q_ (Kd.R_lower (Kd.R_new' (Kd.R_new' (Kd.R_new' (Kd.R_new' (Kd.R_new' ho1 (Kd.R_lt z10_)) (Kd.R_lt z15_)) (Kd.R_lt z28_)) (Kd.R_lt z32_)) (Kd.R_lt z49_)) (below_size cb_))
     have HO587 := q_ (Kd.R_lower (Kd.R_new' (Kd.R_new' (Kd.R_new' (Kd.R_new' (Kd.R_new' (Kd.R_new' (Kd.R_new' (Kd.R_new' (Kd.R_new' (Kd.R_new' (Kd.R_new' (Kd.R_new' (Kd.R_new' (Kd.R_new' (Kd.R_new' (Kd.R_new' (Kd.R_new' (Kd.R_new' (Kd.R_new' (Kd.R_new' ho2 (Kd.R_lt z9_)) (Kd.R_lt z10_)) (Kd.R_lt z17_)) (Kd.R_lt z11_)) (Kd.R_lt z14_)) (Kd.R_lt z15_)) (Kd.R_lt z25_)) (Kd.R_lt z16_)) (Kd.R_lt z27_)) (Kd.R_lt z28_)) (Kd.R_lt z35_)) (Kd.R_lt z29_)) (Kd.R_lt z31_)) (Kd.R_lt z32_)) (Kd.R_lt z38_)) (Kd.R_lt z33_)) (Kd.R_lt z48_)) (Kd.R_lt z49_)) (Kd.R_lt z62_)) (Kd.R_lt z50_)) (below_size cb_))
     replace HO496 := q_ (Kd.R_elder' z9_ (Kd.R_base ho0) hb)
     replace HO499 := q_ (Kd.R_elder' z10_ (Kd.R_base ho1) hb)
     replace HO502 := q_ (Kd.R_mono (Kd.R_told (Kd.R_told (Kd.R_told (Kd.R_told (Kd.R_old z17_ hb) (Kd.R_base ho0)) (Kd.R_base ho1)) (Kd.R_base ho2)) (Kd.R_base ho3)) (fun _ h_ => h_.1))
     replace HO512 := q_ (Kd.R_elder' z14_ (Kd.R_base ho0) hb)
     replace HO515 := q_ (Kd.R_elder' z15_ (Kd.R_base ho1) hb)
     replace HO518 := q_ (Kd.R_mono (Kd.R_told (Kd.R_told (Kd.R_told (Kd.R_told (Kd.R_old z25_ hb) (Kd.R_base ho0)) (Kd.R_base ho1)) (Kd.R_base ho2)) (Kd.R_base ho3)) (fun _ h_ => h_.1))
     replace HO529 := q_ (Kd.R_elder' z27_ (Kd.R_base ho0) hb)
     replace HO532 := q_ (Kd.R_elder' z28_ (Kd.R_base ho1) hb)
     replace HO535 := q_ (Kd.R_mono (Kd.R_told (Kd.R_told (Kd.R_told (Kd.R_told (Kd.R_old z35_ hb) (Kd.R_base ho0)) (Kd.R_base ho1)) (Kd.R_base ho2)) (Kd.R_base ho3)) (fun _ h_ => h_.1))
     replace HO546 := q_ (Kd.R_elder' z31_ (Kd.R_base ho0) hb)
     replace HO549 := q_ (Kd.R_elder' z32_ (Kd.R_base ho1) hb)
     replace HO552 := q_ (Kd.R_mono (Kd.R_told (Kd.R_told (Kd.R_told (Kd.R_told (Kd.R_old z38_ hb) (Kd.R_base ho0)) (Kd.R_base ho1)) (Kd.R_base ho2)) (Kd.R_base ho3)) (fun _ h_ => h_.1))
     replace HO564 := q_ (Kd.R_elder' z48_ (Kd.R_base ho0) hb)
     replace HO567 := q_ (Kd.R_elder' z49_ (Kd.R_base ho1) hb)
     replace HO570 := q_ (Kd.R_mono (Kd.R_told (Kd.R_told (Kd.R_told (Kd.R_told (Kd.R_old z62_ hb) (Kd.R_base ho0)) (Kd.R_base ho1)) (Kd.R_base ho2)) (Kd.R_base ho3)) (fun _ h_ => h_.1))
     have HO590 := q_ (Kd.R_lower (Kd.R_new' (Kd.R_new' (Kd.R_new' (Kd.R_new' (Kd.R_new' ho3 (Kd.R_lt z11_)) (Kd.R_lt z16_)) (Kd.R_lt z29_)) (Kd.R_lt z33_)) (Kd.R_lt z50_)) (below_size cb_))
     replace HO505 := q_ (Kd.R_elder' z11_ (Kd.R_base ho3) hb)
     replace HO521 := q_ (Kd.R_elder' z16_ (Kd.R_base ho3) hb)
     replace HO538 := q_ (Kd.R_elder' z29_ (Kd.R_base ho3) hb)
     replace HO555 := q_ (Kd.R_elder' z33_ (Kd.R_base ho3) hb)
     replace HO573 := q_ (Kd.R_elder' z50_ (Kd.R_base ho3) hb)
     have HO593 := q_ (Kd.R_lower (Kd.R_new' (Kd.R_new' (Kd.R_new' (Kd.R_new' (Kd.R_new' ho4 (Kd.R_lt z18_)) (Kd.R_lt z26_)) (Kd.R_lt z36_)) (Kd.R_lt z39_)) (Kd.R_lt z63_)) (below_size cb_))
     replace HO508 := q_ (Kd.R_elder' z18_ (Kd.R_base ho4) hb)
     replace HO524 := q_ (Kd.R_elder' z26_ (Kd.R_base ho4) hb)
     replace HO541 := q_ (Kd.R_elder' z36_ (Kd.R_base ho4) hb)
     replace HO558 := q_ (Kd.R_elder' z39_ (Kd.R_base ho4) hb)
     replace HO576 := q_ (Kd.R_elder' z63_ (Kd.R_base ho4) hb)
     replace BK489 := rb_ BK489 hb
     replace BK490 := rb_ BK490 hb
     replace BK542 := rb_ BK542 hb
     replace BK559 := rb_ BK559 hb
     replace HB := hb_ hb
     (try clear hb)
     (try clear hb2)
     (try clear hk)
     (try clear hi)
     (try clear ho0)
     (try clear ho1)
     (try clear ho2)
     (try clear ho3)
     (try clear ho4)
     obtain ⟨Ao82, co82, eo82⟩ := Kd.R_slice HO581.out
     (first | subst eo82 | (injection eo82 with f1_ f2_ f3_; have f4_ := f1_.symm; have f5_ := f3_.symm; clear f1_ f2_ f3_; subst f4_; subst f5_))
     obtain ⟨Ao83, co83, eo83⟩ := Kd.R_slice HO584.out
     (first | subst eo83 | (injection eo83 with f1_ f2_ f3_; have f4_ := f1_.symm; have f5_ := f3_.symm; clear f1_ f2_ f3_; subst f4_; subst f5_))
     obtain ⟨Ao84, co84, eo84⟩ := Kd.R_slice HO587.out
     (first | subst eo84 | (injection eo84 with f1_ f2_ f3_; have f4_ := f1_.symm; have f5_ := f3_.symm; clear f1_ f2_ f3_; subst f4_; subst f5_))
     obtain ⟨Ao85, co85, eo85⟩ := Kd.R_slice HO590.out
     (first | subst eo85 | (injection eo85 with f1_ f2_ f3_; have f4_ := f1_.symm; have f5_ := f3_.symm; clear f1_ f2_ f3_; subst f4_; subst f5_))
     obtain ⟨Ao86, co86, eo86⟩ := Kd.R_slice HO593.out
     (first | subst eo86 | (injection eo86 with f1_ f2_ f3_; have f4_ := f1_.symm; have f5_ := f3_.symm; clear f1_ f2_ f3_; subst f4_; subst f5_))
     refine hK.out _ _ ⟨(blk_cell BK559.out 0).trans rfl, (blk_cell BK559.out 1).trans rfl, (blk_cell BK559.out 2).trans rfl, (blk_cell BK559.out 3).trans rfl, (blk_cell BK559.out 4).trans rfl, (blk_cell BK559.out 5).trans rfl, (blk_cell BK490.out 0).trans rfl, (blk_cell BK490.out 1).trans rfl, (blk_cell BK490.out 2).trans rfl, (blk_cell BK490.out 3).trans rfl, (blk_cell BK490.out 4).trans rfl, (blk_cell BK490.out 5).trans rfl⟩ (fun hHeld => ?_)
     clear hK K
     refine norm_ (a' := ?_) ?_ ?_
     rotate_left
     ·show Act.put _ (some 42) _ = _
      simp only [Act.put, List.setIfInBounds_toArray, List.set_cons_zero, List.set_cons_succ, i64_w, i32_w]
      rfl
     refine one_ (i := 3) (N := some 43) (tf 4 1) rfl rfl (by kernel_rfl) (by decide) (fun K hK => ?_)
     refine goes_ Try.func47 (by kernel_rfl) rfl #[.agg #[.bool t543, .slice Ao57 t544.length co57, .slice Ao58 t547.length co58, .slice Ao59 t550.length co59, .slice Ao60 t553.length co60, .slice Ao61 t556.length co61], .agg #[.bool t578, .slice Ao82 t579.length co82, .slice Ao83 t582.length co83, .slice Ao84 t585.length co84, .slice Ao85 t588.length co85, .slice Ao86 t591.length co86]] (by rfl) rfl rfl z0_ ?_
     with_reducible refine (laws_eqMachine.calls k t543 _ _ t544 _ _ t547 _ _ t550 _ _ t553 _ _ t556 t578 _ _ t579 _ _ t582 _ _ t585 _ _ t588 _ _ t591 t594 _ ?side1 ?side2 ?side3 ?side4 ?side5 ?side6 ?side7 ?side8 ?side9 ?side10 ?side11 ?side12 ?side13 ?side14 ?side15 ?side16 ?side17 ?side18 ?side19 ?side20 A78.out).mono ?_
     (case side1 => repeat (first | exact (Kd.R_reads' HO546.out).2.2 | (with_reducible refine Kd.C_alloc ?_ _) | (with_reducible refine Kd.C_drewN ?_ _) | (with_reducible refine Kd.C_drew ?_)))
     (case side2 => exact (Kd.R_reads' HO546.out).2.1)
     (case side3 => repeat (first | exact (Kd.R_reads' HO549.out).2.2 | (with_reducible refine Kd.C_alloc ?_ _) | (with_reducible refine Kd.C_drewN ?_ _) | (with_reducible refine Kd.C_drew ?_)))
     (case side4 => exact (Kd.R_reads' HO549.out).2.1)
     (case side5 => repeat (first | exact (Kd.R_reads' HO552.out).2.2 | (with_reducible refine Kd.C_alloc ?_ _) | (with_reducible refine Kd.C_drewN ?_ _) | (with_reducible refine Kd.C_drew ?_)))
     (case side6 => exact (Kd.R_reads' HO552.out).2.1)
     (case side7 => repeat (first | exact (Kd.R_reads' HO555.out).2.2 | (with_reducible refine Kd.C_alloc ?_ _) | (with_reducible refine Kd.C_drewN ?_ _) | (with_reducible refine Kd.C_drew ?_)))
     (case side8 => exact (Kd.R_reads' HO555.out).2.1)
     (case side9 => repeat (first | exact (Kd.R_reads' HO558.out).2.2 | (with_reducible refine Kd.C_alloc ?_ _) | (with_reducible refine Kd.C_drewN ?_ _) | (with_reducible refine Kd.C_drew ?_)))
     (case side10 => exact (Kd.R_reads' HO558.out).2.1)
     (case side11 => repeat (first | exact (Kd.R_reads' HO581.out).2.2 | (with_reducible refine Kd.C_alloc ?_ _) | (with_reducible refine Kd.C_drewN ?_ _) | (with_reducible refine Kd.C_drew ?_)))
     (case side12 => exact (Kd.R_reads' HO581.out).2.1)
     (case side13 => repeat (first | exact (Kd.R_reads' HO584.out).2.2 | (with_reducible refine Kd.C_alloc ?_ _) | (with_reducible refine Kd.C_drewN ?_ _) | (with_reducible refine Kd.C_drew ?_)))
     (case side14 => exact (Kd.R_reads' HO584.out).2.1)
     (case side15 => repeat (first | exact (Kd.R_reads' HO587.out).2.2 | (with_reducible refine Kd.C_alloc ?_ _) | (with_reducible refine Kd.C_drewN ?_ _) | (with_reducible refine Kd.C_drew ?_)))
     (case side16 => exact (Kd.R_reads' HO587.out).2.1)
     (case side17 => repeat (first | exact (Kd.R_reads' HO590.out).2.2 | (with_reducible refine Kd.C_alloc ?_ _) | (with_reducible refine Kd.C_drewN ?_ _) | (with_reducible refine Kd.C_drew ?_)))
     (case side18 => exact (Kd.R_reads' HO590.out).2.1)
     (case side19 => repeat (first | exact (Kd.R_reads' HO593.out).2.2 | (with_reducible refine Kd.C_alloc ?_ _) | (with_reducible refine Kd.C_drewN ?_ _) | (with_reducible refine Kd.C_drew ?_)))
     (case side20 => exact (Kd.R_reads' HO593.out).2.1)
     rintro e w87 ⟨rfl, hb⟩
     refine ⟨_, rfl, ?_⟩
     replace HO496 := q_ (Kd.R_below z9_ hb)
     replace HO499 := q_ (Kd.R_below z10_ hb)
     replace HO502 := q_ (Kd.R_below z17_ hb)
     replace HO505 := q_ (Kd.R_below z11_ hb)
     replace HO508 := q_ (Kd.R_below z18_ hb)
     replace HO512 := q_ (Kd.R_below z14_ hb)
     replace HO515 := q_ (Kd.R_below z15_ hb)
     replace HO518 := q_ (Kd.R_below z25_ hb)
     replace HO521 := q_ (Kd.R_below z16_ hb)
     replace HO524 := q_ (Kd.R_below z26_ hb)
     replace HO529 := q_ (Kd.R_below z27_ hb)
     replace HO532 := q_ (Kd.R_below z28_ hb)
     replace HO535 := q_ (Kd.R_below z35_ hb)
     replace HO538 := q_ (Kd.R_below z29_ hb)
     replace HO541 := q_ (Kd.R_below z36_ hb)
     replace HO546 := q_ (Kd.R_below z31_ hb)
     replace HO549 := q_ (Kd.R_below z32_ hb)
     replace HO552 := q_ (Kd.R_below z38_ hb)
     replace HO555 := q_ (Kd.R_below z33_ hb)
     replace HO558 := q_ (Kd.R_below z39_ hb)
     replace HO564 := q_ (Kd.R_below z48_ hb)
     replace HO567 := q_ (Kd.R_below z49_ hb)
     replace HO570 := q_ (Kd.R_below z62_ hb)
     replace HO573 := q_ (Kd.R_below z50_ hb)
     replace HO576 := q_ (Kd.R_below z63_ hb)
     replace HO581 := q_ (Kd.R_below (by (with_reducible repeat (first | apply Kd.R_alloc | apply Kd.R_drewN | apply Kd.R_drew)); exact HO581.out) hb)
     replace HO584 := q_ (Kd.R_below (by (with_reducible repeat (first | apply Kd.R_alloc | apply Kd.R_drewN | apply Kd.R_drew)); exact HO584.out) hb)
     replace HO587 := q_ (Kd.R_below (by (with_reducible repeat (first | apply Kd.R_alloc | apply Kd.R_drewN | apply Kd.R_drew)); exact HO587.out) hb)
     replace HO590 := q_ (Kd.R_below (by (with_reducible repeat (first | apply Kd.R_alloc | apply Kd.R_drewN | apply Kd.R_drew)); exact HO590.out) hb)
     replace HO593 := q_ (Kd.R_below (by (with_reducible repeat (first | apply Kd.R_alloc | apply Kd.R_drewN | apply Kd.R_drew)); exact HO593.out) hb)
     replace BK489 := rb_ BK489 hb
     replace BK490 := rb_ BK490 hb
     replace BK542 := rb_ BK542 hb
     replace BK559 := rb_ BK559 hb
     replace HB := hb_ hb
     (try clear hb)
     (try clear hb2)
     (try clear hk)
     (try clear hi)
     refine hK.out _ _ ⟨(blk_cell BK559.out 0).trans rfl, (blk_cell BK559.out 1).trans rfl, (blk_cell BK559.out 2).trans rfl, (blk_cell BK559.out 3).trans rfl, (blk_cell BK559.out 4).trans rfl, (blk_cell BK559.out 5).trans rfl, (blk_cell BK490.out 0).trans rfl, (blk_cell BK490.out 1).trans rfl, (blk_cell BK490.out 2).trans rfl, (blk_cell BK490.out 3).trans rfl, (blk_cell BK490.out 4).trans rfl, (blk_cell BK490.out 5).trans rfl⟩ (fun hHeld => ?_)
     clear hK K
     refine norm_ (a' := ?_) ?_ ?_
     rotate_left
     ·show Act.put _ (some 43) _ = _
      simp only [Act.put, List.setIfInBounds_toArray, List.set_cons_zero, List.set_cons_succ, i64_w, i32_w]
      rfl
     refine pure_ (i := 4) (N := some 44) (v := ?_) (a' := ?_) (tf 5 0) rfl rfl (by kernel_rfl) (fun _ _ _ h => h) (Or.inl ⟨by rfl, ?_⟩) ?_ ?_
     rotate_left
     ·intro w'
      go_simp
      with_reducible rfl
     rotate_left
     ·simp only [Act.put, List.setIfInBounds_toArray, List.set_cons_zero, List.set_cons_succ, i64_w, i32_w]
      rfl
     refine done_ (by kernel_rfl) ?_
     go_upto_if 44 with (fail)
     have H := HC79.out
     clear HC79
     replace H := kb_ H; rcases H with ⟨rfl, H⟩ | ⟨rfl, H⟩
     ·obtain rfl := si_ H
      go_wp2
      go_ret
      exact ⟨z1_, cb_⟩
     ·obtain rfl := si_ H
      go_wp2
      go_ret
      exact ⟨z1_, cb_⟩
    ·obtain rfl := si_ H
     go_wp2
     go_ret
     exact ⟨z1_, cb_⟩

end Go.Proofs.Ytfnndcpaldkkoaa.PFnExactMachineSame
