-- Written by a program of this session, which goes by the kit's print. Not trusted: Lean checks it.
import Derived.Test.YtfnndcpaldkkoaaPFnExactMachineSamex0
import Derived.Test.YtfnndcpaldkkoaaPFnExactMachineSamex2
import Derived.Test.YtfnndcpaldkkoaaPFnExactMachineSamex8
import Derived.Test.YtfnndcpaldkkoaaPFnExactMachineSamex9
namespace Go.Proofs.Ytfnndcpaldkkoaa.PFnExactMachineSame
open Go.RowKit Go.Proofs.YtfnndcpaldkkoaaW.PrintWords Go.Proofs.YtfnndcpaldkkoaaW.PrintLast Go.Proofs.YtfnndcpaldkkoaaW.PrintMore
attribute [local go_sem] max2_int min2_int max_two min_two max_three min_three max_four min_four   -- for this text's walks alone
set_option linter.unusedVariables false
set_option linter.unusedSimpArgs false

attribute [local go_sem high] eqA98
/-! ### spec_MachineSame: function 44 -/
mutual
def spec_MachineSame.j0 : Nat → Bool → Bool → List (S92) → List Int → List (S34) → List (S72) → List (S98) → Bool → List (S92) → List Int → List (S34) → List (S72) → List (S98) → Option (Bool)
 | 0, _, _, _, _, _, _, _, _, _, _, _, _, _ => none
 | k + 1, x22, x241000, x241001, x241002, x241003, x241004, x241005, x242000, x242001, x242002, x242003, x242004, x242005 => if x22 = true then (some false) else (spec_MachineSame.l0 k 0 x241000 x241001 x241002 x241003 x241004 x241005 x242000 x242001 x242002 x242003 x242004 x242005)
def spec_MachineSame.l0 : Nat → Int → Bool → List (S92) → List Int → List (S34) → List (S72) → List (S98) → Bool → List (S92) → List Int → List (S34) → List (S72) → List (S98) → Option (Bool)
 | 0, _, _, _, _, _, _, _, _, _, _, _, _, _ => none
 | k + 1, x5, x241000, x241001, x241002, x241003, x241004, x241005, x242000, x242001, x242002, x242003, x242004, x242005 => if x5 < (x241005.length : Int) then (if 0 ≤ x5 then (if x5 < (x242005.length : Int) then (if (!(((rd_T98 x241005 x5).f0) == ((rd_T98 x242005 x5).f0)) || (!(((rd_T98 x241005 x5).f1) == ((rd_T98 x242005 x5).f1)) || (!(((rd_T98 x241005 x5).f2) == ((rd_T98 x242005 x5).f2)) || (!(((rd_T98 x241005 x5).f3) == ((rd_T98 x242005 x5).f3)))))) = true then (some false) else (spec_MachineSame.l0 k (wrap64 (x5 + 1)) x241000 x241001 x241002 x241003 x241004 x241005 x242000 x242001 x242002 x242003 x242004 x242005)) else (none)) else (none)) else (some true)
end
def spec_MachineSame.f (k : Nat) (a0_0 : Bool) (l0_1 : List (S92)) (l0_2 : List Int) (l0_3 : List (S34)) (l0_4 : List (S72)) (l0_5 : List (S98)) (a1_0 : Bool) (l1_1 : List (S92)) (l1_2 : List Int) (l1_3 : List (S34)) (l1_4 : List (S72)) (l1_5 : List (S98)) : Option (Bool) := (spec_TreeMap.f k a0_0 l0_1 l0_2 l0_3 l0_4).bind fun t242 => ((spec_TreeMap.f k a1_0 l1_1 l1_2 l1_3 l1_4).bind fun t245 => ((spec_l4SameMap.f k t242 t245).bind fun t248 => (if t248 = true then (spec_MachineSame.j0 k ((l0_5.length : Int) != (l1_5.length : Int)) a0_0 l0_1 l0_2 l0_3 l0_4 l0_5 a1_0 l1_1 l1_2 l1_3 l1_4 l1_5) else (spec_MachineSame.j0 k true a0_0 l0_1 l0_2 l0_3 l0_4 l0_5 a1_0 l1_1 l1_2 l1_3 l1_4 l1_5))))
theorem spec_MachineSame.mono_l : ∀ k, (∀ y0 y1 y2 y3 y4 y5 y6 y7 y8 y9 y10 y11 y12, LeO (spec_MachineSame.j0 k y0 y1 y2 y3 y4 y5 y6 y7 y8 y9 y10 y11 y12) (spec_MachineSame.j0 (k + 1) y0 y1 y2 y3 y4 y5 y6 y7 y8 y9 y10 y11 y12)) ∧ (∀ y0 y1 y2 y3 y4 y5 y6 y7 y8 y9 y10 y11 y12, LeO (spec_MachineSame.l0 k y0 y1 y2 y3 y4 y5 y6 y7 y8 y9 y10 y11 y12) (spec_MachineSame.l0 (k + 1) y0 y1 y2 y3 y4 y5 y6 y7 y8 y9 y10 y11 y12))
 | 0 => ⟨fun _ _ _ _ _ _ _ _ _ _ _ _ _ r h => by simp [spec_MachineSame.j0] at h, fun _ _ _ _ _ _ _ _ _ _ _ _ _ r h => by simp [spec_MachineSame.l0] at h⟩
 | k + 1 => by
  obtain ⟨ih0, ih1⟩ := spec_MachineSame.mono_l k
  refine ⟨?_, ?_⟩
  ·intro y0 y1 y2 y3 y4 y5 y6 y7 y8 y9 y10 y11 y12
   unfold spec_MachineSame.j0
   have m0 := @spec_TreeMap.mono
   have m1 := @spec_l4SameMap.mono
   exact zm_
  ·intro y0 y1 y2 y3 y4 y5 y6 y7 y8 y9 y10 y11 y12
   unfold spec_MachineSame.l0
   have m0 := @spec_TreeMap.mono
   have m1 := @spec_l4SameMap.mono
   exact zm_
theorem spec_MachineSame.mono : ∀ a0 a1 a2 a3 a4 a5 a6 a7 a8 a9 a10 a11 k, LeO (spec_MachineSame.f k a0 a1 a2 a3 a4 a5 a6 a7 a8 a9 a10 a11) (spec_MachineSame.f (k + 1) a0 a1 a2 a3 a4 a5 a6 a7 a8 a9 a10 a11) := by
 intro a0 a1 a2 a3 a4 a5 a6 a7 a8 a9 a10 a11 k
 obtain ⟨ih0, ih1⟩ := spec_MachineSame.mono_l k
 unfold spec_MachineSame.f
 have m0 := @spec_TreeMap.mono
 have m1 := @spec_l4SameMap.mono
 exact zm_
def spec_MachineSame.T1 : Bool × List (List Nat × List Nat) := (true, [([], []), ([0], [0]), ([1], [1]), ([], []), ([3], [3]), ([4, 2], [4]), ([2, 5, 5], [2, 5]), ([6], [6]), ([7, 6], [7]), ([8], [8]), ([9, 8], [8, 9]), ([10, 8], [8, 10]), ([8], [8]), ([12, 8], [8, 12]), ([13, 8], [8, 13]), ([11, 14, 8], [8, 11, 14]), ([8, 15], [8, 15])])
def spec_MachineSame.B1 : List Nat := [0, 1, 3, 0, 8, 31, 63, 127, 255, 511, 1023, 2047, 511, 4607, 12799, 32767, 65535]
theorem spec_MachineSame.tab1 : rtab .any (opsOf Try.f44 1) = spec_MachineSame.T1 := by kernel_rfl
theorem spec_MachineSame.bits1 : waitsOk spec_MachineSame.T1.2 spec_MachineSame.B1 = true := by kernel_rfl
def spec_MachineSame.T6 : Bool × List (List Nat × List Nat) := (true, [([], []), ([0], [0]), ([], []), ([1, 2], [1, 2]), ([3], [3]), ([], []), ([5], [5]), ([], []), ([6, 7], [6, 7]), ([8], [8]), ([4, 9], [4, 9])])
def spec_MachineSame.B6 : List Nat := [0, 1, 0, 7, 15, 0, 32, 0, 224, 480, 1023]
theorem spec_MachineSame.tab6 : rtab .any (opsOf Try.f44 6) = spec_MachineSame.T6 := by kernel_rfl
theorem spec_MachineSame.bits6 : waitsOk spec_MachineSame.T6.2 spec_MachineSame.B6 = true := by kernel_rfl
set_option maxHeartbeats 8000000 in
set_option maxRecDepth 100000 in
theorem spec_MachineSame.calls (k : Nat) (a0_0 : Bool) (A0_1 : Option Addr) (c0_1 : Nat) (l0_1 : List (S92)) (A0_2 : Option Addr) (c0_2 : Nat) (l0_2 : List Int) (A0_3 : Option Addr) (c0_3 : Nat) (l0_3 : List (S34)) (A0_4 : Option Addr) (c0_4 : Nat) (l0_4 : List (S72)) (A0_5 : Option Addr) (c0_5 : Nat) (l0_5 : List (S98)) (a1_0 : Bool) (A1_1 : Option Addr) (c1_1 : Nat) (l1_1 : List (S92)) (A1_2 : Option Addr) (c1_2 : Nat) (l1_2 : List Int) (A1_3 : Option Addr) (c1_3 : Nat) (l1_3 : List (S34)) (A1_4 : Option Addr) (c1_4 : Nat) (l1_4 : List (S72)) (A1_5 : Option Addr) (c1_5 : Nat) (l1_5 : List (S98)) (r : Bool) (w : World) (hr0_1 : Kd.C k92 w A0_1 l0_1.length l0_1) (hc0_1 : l0_1.length ≤ c0_1) (hr0_2 : Kd.C (Kd.int .i64) w A0_2 l0_2.length l0_2) (hc0_2 : l0_2.length ≤ c0_2) (hr0_3 : Kd.C k34 w A0_3 l0_3.length l0_3) (hc0_3 : l0_3.length ≤ c0_3) (hr0_4 : Kd.C k72 w A0_4 l0_4.length l0_4) (hc0_4 : l0_4.length ≤ c0_4) (hr0_5 : Kd.C k98 w A0_5 l0_5.length l0_5) (hc0_5 : l0_5.length ≤ c0_5) (hr1_1 : Kd.C k92 w A1_1 l1_1.length l1_1) (hc1_1 : l1_1.length ≤ c1_1) (hr1_2 : Kd.C (Kd.int .i64) w A1_2 l1_2.length l1_2) (hc1_2 : l1_2.length ≤ c1_2) (hr1_3 : Kd.C k34 w A1_3 l1_3.length l1_3) (hc1_3 : l1_3.length ≤ c1_3) (hr1_4 : Kd.C k72 w A1_4 l1_4.length l1_4) (hc1_4 : l1_4.length ≤ c1_4) (hr1_5 : Kd.C k98 w A1_5 l1_5.length l1_5) (hc1_5 : l1_5.length ≤ c1_5) (h : spec_MachineSame.f k a0_0 l0_1 l0_2 l0_3 l0_4 l0_5 a1_0 l1_1 l1_2 l1_3 l1_4 l1_5 = some r) :
  Calls Try.prog 44 #[.agg #[.bool a0_0, .slice A0_1 l0_1.length c0_1, .slice A0_2 l0_2.length c0_2, .slice A0_3 l0_3.length c0_3, .slice A0_4 l0_4.length c0_4, .slice A0_5 l0_5.length c0_5], .agg #[.bool a1_0, .slice A1_1 l1_1.length c1_1, .slice A1_2 l1_2.length c1_2, .slice A1_3 l1_3.length c1_3, .slice A1_4 l1_4.length c1_4, .slice A1_5 l1_5.length c1_5]] w fun e w' => e = .returned (.bool r) ∧ Below w.heap.size w w' := by
 have hu64 := Try.underlying64
 have hu34 := Try.underlying34
 have hu98 := Try.underlying98
 have HR0_1 := q_ hr0_1
 have HC0_1 := q_ hc0_1
 clear hr0_1 hc0_1
 have HR0_2 := q_ hr0_2
 have HC0_2 := q_ hc0_2
 clear hr0_2 hc0_2
 have HR0_3 := q_ hr0_3
 have HC0_3 := q_ hc0_3
 clear hr0_3 hc0_3
 have HR0_4 := q_ hr0_4
 have HC0_4 := q_ hc0_4
 clear hr0_4 hc0_4
 have HR0_5 := q_ hr0_5
 have HC0_5 := q_ hc0_5
 clear hr0_5 hc0_5
 have HR1_1 := q_ hr1_1
 have HC1_1 := q_ hc1_1
 clear hr1_1 hc1_1
 have HR1_2 := q_ hr1_2
 have HC1_2 := q_ hc1_2
 clear hr1_2 hc1_2
 have HR1_3 := q_ hr1_3
 have HC1_3 := q_ hc1_3
 clear hr1_3 hc1_3
 have HR1_4 := q_ hr1_4
 have HC1_4 := q_ hc1_4
 clear hr1_4 hc1_4
 have HR1_5 := q_ hr1_5
 have HC1_5 := q_ hc1_5
 clear hr1_5 hc1_5
 have HB := q_ (Below.refl w.heap.size w)
 have H := h; clear h
 unfold spec_MachineSame.f at H
 have HC3 := q_ H
 clear H
 go_enter Try.func44, Try.ntmps44
 go_upto_region 1 with (first | ((with_reducible refine gate_dst (N := 2) rfl ?_); (try (refine gate_guard (by rfl) ?_; dsimp only)); refine box_event ?hg (N := 2) ?hd (cs := #[.bool a0_0, .slice A0_1 l0_1.length c0_1, .slice A0_2 l0_2.length c0_2, .slice A0_3 l0_3.length c0_3, .slice A0_4 l0_4.length c0_4, .slice A0_5 l0_5.length c0_5]) (t := 64) ?hr ?_; (case hd => rfl); (case hg => rfl); (case hr => exact z92_); intro gb240 hg w4 hbox hb; have BK240 := q_ (hbox); have GW240 := ge_ hg; have GE240 := ge_ hg; replace HB := hb_ hb; clear hb hbox hg) | ((with_reducible refine gate_dst (N := 3) rfl ?_); (try (refine gate_guard (by rfl) ?_; dsimp only)); refine box_event ?hg (N := 3) ?hd (cs := #[.bool a1_0, .slice A1_1 l1_1.length c1_1, .slice A1_2 l1_2.length c1_2, .slice A1_3 l1_3.length c1_3, .slice A1_4 l1_4.length c1_4, .slice A1_5 l1_5.length c1_5]) (t := 64) ?hr ?_; (case hd => rfl); (case hg => rfl); (case hr => exact z92_); intro gb241 hg w5 hbox hb; have BK241 := q_ (hbox); have GW241 := ge_ hg; have GE241 := ge_ hg; replace HB := hb_ hb; have NB240_241 := nl_ hg BK240; have NB241_240 := nr_ hg BK240; replace BK240 := rb_ BK240 hb; clear hb hbox hg))
 (try simp only [Act.put, List.setIfInBounds_toArray, List.set_cons_zero, List.set_cons_succ])
 go_cut [22] (fun v22 wc => ∃ (kq : Nat) (x22_2 : Bool), v22 = .bool x22_2 ∧ Aside0 (spec_MachineSame.j0 kq x22_2 a0_0 l0_1 l0_2 l0_3 l0_4 l0_5 a1_0 l1_1 l1_2 l1_3 l1_4 l1_5 = some r) ∧ Aside0 (kq ≤ k) ∧ Aside0 (wc.heap[gb240]? = some (.cells #[.bool a0_0, (.slice A0_1 l0_1.length c0_1), (.slice A0_2 l0_2.length c0_2), (.slice A0_3 l0_3.length c0_3), (.slice A0_4 l0_4.length c0_4), (.slice A0_5 l0_5.length c0_5)] 64 (0, 0))) ∧ Aside0 (wc.heap[gb241]? = some (.cells #[.bool a1_0, (.slice A1_1 l1_1.length c1_1), (.slice A1_2 l1_2.length c1_2), (.slice A1_3 l1_3.length c1_3), (.slice A1_4 l1_4.length c1_4), (.slice A1_5 l1_5.length c1_5)] 64 (0, 0))) ∧ Aside0 (Below w.heap.size w wc))
 case first =>
  have H := HC3.out
  clear HC3
  replace H := bi_ H; obtain ⟨t242, A6, H⟩ := H
  replace H := bi_ H; obtain ⟨t245, A7, H⟩ := H
  replace H := bi_ H; obtain ⟨t248, A8, H⟩ := H
  replace H := kb_ H; rcases H with ⟨rfl, H⟩ | ⟨rfl, H⟩
  ·have H' := q_ H
   clear H
   try go_wp2
   replace BK240 := q_ (blk_drew BK240.out)
   replace BK241 := q_ (blk_drew BK241.out)
   replace HB := q_ (below_drew1 HB.out)
   refine start_ (n := 17) (S := fun w' => w'.cell? ⟨gb240, 0, none⟩ = some (.bool a0_0) ∧ w'.cell? ⟨gb240, 1, none⟩ = some (.slice A0_1 l0_1.length c0_1) ∧ w'.cell? ⟨gb240, 2, none⟩ = some (.slice A0_2 l0_2.length c0_2) ∧ w'.cell? ⟨gb240, 3, none⟩ = some (.slice A0_3 l0_3.length c0_3) ∧ w'.cell? ⟨gb240, 4, none⟩ = some (.slice A0_4 l0_4.length c0_4) ∧ w'.cell? ⟨gb240, 5, none⟩ = some (.slice A0_5 l0_5.length c0_5) ∧ w'.cell? ⟨gb241, 0, none⟩ = some (.bool a1_0) ∧ w'.cell? ⟨gb241, 1, none⟩ = some (.slice A1_1 l1_1.length c1_1) ∧ w'.cell? ⟨gb241, 2, none⟩ = some (.slice A1_2 l1_2.length c1_2) ∧ w'.cell? ⟨gb241, 3, none⟩ = some (.slice A1_3 l1_3.length c1_3) ∧ w'.cell? ⟨gb241, 4, none⟩ = some (.slice A1_4 l1_4.length c1_4) ∧ w'.cell? ⟨gb241, 5, none⟩ = some (.slice A1_5 l1_5.length c1_5)) (ds := []) (tf 0 17) (by kernel_rfl) rfl rfl ⟨(blk_cell BK240.out 0).trans rfl, (blk_cell BK240.out 1).trans rfl, (blk_cell BK240.out 2).trans rfl, (blk_cell BK240.out 3).trans rfl, (blk_cell BK240.out 4).trans rfl, (blk_cell BK240.out 5).trans rfl, (blk_cell BK241.out 0).trans rfl, (blk_cell BK241.out 1).trans rfl, (blk_cell BK241.out 2).trans rfl, (blk_cell BK241.out 3).trans rfl, (blk_cell BK241.out 4).trans rfl, (blk_cell BK241.out 5).trans rfl⟩ (fun hHeld => ?_); refine with_tabW spec_MachineSame.tab1 spec_MachineSame.bits1 (fun HT_ HW_ => ?_)
   generalize w5.drew = w10 at BK240 BK241 HB hHeld ⊢
   refine p1_ 0 (some 6) (tf 1 16) HT_.out ?_
   refine p1_ 3 (some 9) #[true, false, false, true, false, false, false, false, false, false, false, false, false, false, false, false, false] HT_.out ?_
   refine take_ (i := 1) (N := some 7) (v := ?_) (a' := ?_) #[true, true, false, true, false, false, false, false, false, false, false, false, false, false, false, false, false] rfl rfl (take_ofW HT_.out HW_.out (by kernel_rfl)) (fun _ _ _ h => h) (Or.inl ⟨by rfl, ?_⟩) hHeld ?_ ?_
   rotate_left
   ·rintro w' ⟨s0, s1, s2, s3, s4, s5, s6, s7, s8, s9, s10, s11⟩
    go_simp
    with_reducible rfl
   rotate_left
   ·simp only [Act.put, List.setIfInBounds_toArray, List.set_cons_zero, List.set_cons_succ, i64_w, i32_w]
    rfl
   refine take_ (i := 4) (N := some 10) (v := ?_) (a' := ?_) #[true, true, false, true, true, false, false, false, false, false, false, false, false, false, false, false, false] rfl rfl (take_ofW HT_.out HW_.out (by kernel_rfl)) (fun _ _ _ h => h) (Or.inl ⟨by rfl, ?_⟩) hHeld ?_ ?_
   rotate_left
   ·rintro w' ⟨s0, s1, s2, s3, s4, s5, s6, s7, s8, s9, s10, s11⟩
    go_simp
    with_reducible rfl
   rotate_left
   ·simp only [Act.put, List.setIfInBounds_toArray, List.set_cons_zero, List.set_cons_succ, i64_w, i32_w]
    rfl
   refine one_ (i := 2) (N := some 8) (tf 5 12) rfl rfl (one_of HT_.out (by kernel_rfl)) (by decide) (fun K hK => ?_)
   refine goes_ Try.func36 (by kernel_rfl) rfl #[.agg #[.bool a0_0, .slice A0_1 l0_1.length c0_1, .slice A0_2 l0_2.length c0_2, .slice A0_3 l0_3.length c0_3, .slice A0_4 l0_4.length c0_4]] (by rfl) rfl rfl z0_ ?_
   with_reducible refine (spec_TreeMap.calls k a0_0 _ _ l0_1 _ _ l0_2 _ _ l0_3 _ _ l0_4 t242 _ ?side1 ?side2 ?side3 ?side4 ?side5 ?side6 ?side7 ?side8 A6.out).mono ?_
   (case side1 => exact z90_)
   (case side2 => exact z115_)
   (case side3 => exact z93_)
   (case side4 => exact z121_)
   (case side5 => exact z94_)
   (case side6 => exact z122_)
   (case side7 => exact z91_)
   (case side8 => exact z119_)
   rintro e w11 ⟨v243, rfl, ho0, hb⟩
   refine ⟨_, rfl, ?_⟩
   have HO244 := q_ (Kd.R_lower ho0 (below_size cb_))
   replace BK240 := rb_ BK240 hb
   replace BK241 := rb_ BK241 hb
   replace HB := hb_ hb
   (try clear hb)
   (try clear hb2)
   (try clear hk)
   (try clear hi)
   (try clear ho0)
   refine hK.out _ _ ⟨(blk_cell BK240.out 0).trans rfl, (blk_cell BK240.out 1).trans rfl, (blk_cell BK240.out 2).trans rfl, (blk_cell BK240.out 3).trans rfl, (blk_cell BK240.out 4).trans rfl, (blk_cell BK240.out 5).trans rfl, (blk_cell BK241.out 0).trans rfl, (blk_cell BK241.out 1).trans rfl, (blk_cell BK241.out 2).trans rfl, (blk_cell BK241.out 3).trans rfl, (blk_cell BK241.out 4).trans rfl, (blk_cell BK241.out 5).trans rfl⟩ (fun hHeld => ?_)
   clear hK K
   refine norm_ (a' := ?_) ?_ ?_
   rotate_left
   ·show Act.put _ (some 8) _ = _
    simp only [Act.put, List.setIfInBounds_toArray, List.set_cons_zero, List.set_cons_succ, i64_w, i32_w]
    rfl
   refine one_ (i := 5) (N := some 11) (tf 6 11) rfl rfl (one_of HT_.out (by kernel_rfl)) (by decide) (fun K hK => ?_)
   refine goes_ Try.func36 (by kernel_rfl) rfl #[.agg #[.bool a1_0, .slice A1_1 l1_1.length c1_1, .slice A1_2 l1_2.length c1_2, .slice A1_3 l1_3.length c1_3, .slice A1_4 l1_4.length c1_4]] (by rfl) rfl rfl z0_ ?_
   with_reducible refine (spec_TreeMap.calls k a1_0 _ _ l1_1 _ _ l1_2 _ _ l1_3 _ _ l1_4 t245 _ ?side1 ?side2 ?side3 ?side4 ?side5 ?side6 ?side7 ?side8 A7.out).mono ?_
   (case side1 => exact z95_)
   (case side2 => exact HC1_1.out)
   (case side3 => exact z96_)
   (case side4 => exact HC1_2.out)
   (case side5 => exact z98_)
   (case side6 => exact HC1_3.out)
   (case side7 => exact z97_)
   (case side8 => exact HC1_4.out)
   rintro e w12 ⟨v246, rfl, ho0, hb⟩
   refine ⟨_, rfl, ?_⟩
   have HO247 := q_ (Kd.R_lower (Kd.R_new' ho0 (Kd.R_lt z60_)) (below_size cb_))
   replace HO244 := q_ (Kd.R_elder' z60_ (Kd.R_base ho0) hb)
   replace BK240 := rb_ BK240 hb
   replace BK241 := rb_ BK241 hb
   replace HB := hb_ hb
   (try clear hb)
   (try clear hb2)
   (try clear hk)
   (try clear hi)
   (try clear ho0)
   obtain ⟨Ao13, co13, eo13⟩ := Kd.R_slice HO244.out
   (first | subst eo13 | (injection eo13 with f1_ f2_ f3_; have f4_ := f1_.symm; have f5_ := f3_.symm; clear f1_ f2_ f3_; subst f4_; subst f5_))
   obtain ⟨Ao14, co14, eo14⟩ := Kd.R_slice HO247.out
   (first | subst eo14 | (injection eo14 with f1_ f2_ f3_; have f4_ := f1_.symm; have f5_ := f3_.symm; clear f1_ f2_ f3_; subst f4_; subst f5_))
   refine hK.out _ _ ⟨(blk_cell BK240.out 0).trans rfl, (blk_cell BK240.out 1).trans rfl, (blk_cell BK240.out 2).trans rfl, (blk_cell BK240.out 3).trans rfl, (blk_cell BK240.out 4).trans rfl, (blk_cell BK240.out 5).trans rfl, (blk_cell BK241.out 0).trans rfl, (blk_cell BK241.out 1).trans rfl, (blk_cell BK241.out 2).trans rfl, (blk_cell BK241.out 3).trans rfl, (blk_cell BK241.out 4).trans rfl, (blk_cell BK241.out 5).trans rfl⟩ (fun hHeld => ?_)
   clear hK K
   refine norm_ (a' := ?_) ?_ ?_
   rotate_left
   ·show Act.put _ (some 11) _ = _
    simp only [Act.put, List.setIfInBounds_toArray, List.set_cons_zero, List.set_cons_succ, i64_w, i32_w]
    rfl
   refine one_ (i := 6) (N := some 12) (tf 7 10) rfl rfl (one_of HT_.out (by kernel_rfl)) (by decide) (fun K hK => ?_)
   refine goes_ Try.func87 (by kernel_rfl) rfl #[.slice Ao13 t242.length co13, .slice Ao14 t245.length co14] (by rfl) rfl rfl z0_ ?_
   with_reducible refine (spec_l4SameMap.calls k _ _ t242 _ _ t245 true _ ?side1 ?side2 ?side3 ?side4 A8.out).mono ?_
   (case side1 => exact z123_)
   (case side2 => exact (Kd.R_reads' HO244.out).2.1)
   (case side3 => exact z124_)
   (case side4 => exact (Kd.R_reads' HO247.out).2.1)
   rintro e w' ⟨rfl, ⟨nd, rfl⟩⟩
   refine ⟨_, rfl, ?_⟩
   refine hK.out _ _ ⟨(blk_cell BK240.out 0).trans rfl, (blk_cell BK240.out 1).trans rfl, (blk_cell BK240.out 2).trans rfl, (blk_cell BK240.out 3).trans rfl, (blk_cell BK240.out 4).trans rfl, (blk_cell BK240.out 5).trans rfl, (blk_cell BK241.out 0).trans rfl, (blk_cell BK241.out 1).trans rfl, (blk_cell BK241.out 2).trans rfl, (blk_cell BK241.out 3).trans rfl, (blk_cell BK241.out 4).trans rfl, (blk_cell BK241.out 5).trans rfl⟩ (fun hHeld => ?_)
   clear hK K
   refine norm_ (a' := ?_) ?_ ?_
   rotate_left
   ·show Act.put _ (some 12) _ = _
    simp only [Act.put, List.setIfInBounds_toArray, List.set_cons_zero, List.set_cons_succ, i64_w, i32_w]
    rfl
   refine p1_ 7 (some 13) (tf 8 9) HT_.out ?_
   refine p1_ 8 (some 14) (tf 9 8) HT_.out ?_
   refine p1_ 9 (some 15) (tf 10 7) HT_.out ?_
   refine p1_ 12 (some 18) #[true, true, true, true, true, true, true, true, true, true, false, false, true, false, false, false, false] HT_.out ?_
   refine take_ (i := 10) (N := some 16) (v := ?_) (a' := ?_) #[true, true, true, true, true, true, true, true, true, true, true, false, true, false, false, false, false] rfl rfl (take_ofW HT_.out HW_.out (by kernel_rfl)) (fun _ _ _ h => h) (Or.inl ⟨by rfl, ?_⟩) hHeld ?_ ?_
   rotate_left
   ·rintro w' ⟨s0, s1, s2, s3, s4, s5, s6, s7, s8, s9, s10, s11⟩
    go_simp
    with_reducible rfl
   rotate_left
   ·simp only [Act.put, List.setIfInBounds_toArray, List.set_cons_zero, List.set_cons_succ, i64_w, i32_w]
    rfl
   refine p1_ 11 (some 17) (tf 13 4) HT_.out ?_
   refine take_ (i := 13) (N := some 19) (v := ?_) (a' := ?_) (tf 14 3) rfl rfl (take_ofW HT_.out HW_.out (by kernel_rfl)) (fun _ _ _ h => h) (Or.inl ⟨by rfl, ?_⟩) hHeld ?_ ?_
   rotate_left
   ·rintro w' ⟨s0, s1, s2, s3, s4, s5, s6, s7, s8, s9, s10, s11⟩
    go_simp
    with_reducible rfl
   rotate_left
   ·simp only [Act.put, List.setIfInBounds_toArray, List.set_cons_zero, List.set_cons_succ, i64_w, i32_w]
    rfl
   refine p1_ 14 (some 20) (tf 15 2) HT_.out ?_
   refine p1_ 15 (some 21) (tf 16 1) HT_.out ?_
   refine p1_ 16 (some 22) (tf 17 0) HT_.out ?_
   refine done_ (done_of HT_.out (by kernel_rfl)) ?_
   try go_wp2
   go_meet
   case rel => exact ⟨_, (((l0_5.length : Int) != (l1_5.length : Int))), z4_, H', ⟨z43_⟩, ⟨z53_⟩, ⟨z54_⟩, ⟨cb_⟩⟩
  ·have H' := q_ H
   clear H
   try go_wp2
   replace BK240 := q_ (blk_drew BK240.out)
   replace BK241 := q_ (blk_drew BK241.out)
   replace HB := q_ (below_drew1 HB.out)
   refine start_ (n := 17) (S := fun w' => w'.cell? ⟨gb240, 0, none⟩ = some (.bool a0_0) ∧ w'.cell? ⟨gb240, 1, none⟩ = some (.slice A0_1 l0_1.length c0_1) ∧ w'.cell? ⟨gb240, 2, none⟩ = some (.slice A0_2 l0_2.length c0_2) ∧ w'.cell? ⟨gb240, 3, none⟩ = some (.slice A0_3 l0_3.length c0_3) ∧ w'.cell? ⟨gb240, 4, none⟩ = some (.slice A0_4 l0_4.length c0_4) ∧ w'.cell? ⟨gb240, 5, none⟩ = some (.slice A0_5 l0_5.length c0_5) ∧ w'.cell? ⟨gb241, 0, none⟩ = some (.bool a1_0) ∧ w'.cell? ⟨gb241, 1, none⟩ = some (.slice A1_1 l1_1.length c1_1) ∧ w'.cell? ⟨gb241, 2, none⟩ = some (.slice A1_2 l1_2.length c1_2) ∧ w'.cell? ⟨gb241, 3, none⟩ = some (.slice A1_3 l1_3.length c1_3) ∧ w'.cell? ⟨gb241, 4, none⟩ = some (.slice A1_4 l1_4.length c1_4) ∧ w'.cell? ⟨gb241, 5, none⟩ = some (.slice A1_5 l1_5.length c1_5)) (ds := []) (tf 0 17) (by kernel_rfl) rfl rfl ⟨(blk_cell BK240.out 0).trans rfl, (blk_cell BK240.out 1).trans rfl, (blk_cell BK240.out 2).trans rfl, (blk_cell BK240.out 3).trans rfl, (blk_cell BK240.out 4).trans rfl, (blk_cell BK240.out 5).trans rfl, (blk_cell BK241.out 0).trans rfl, (blk_cell BK241.out 1).trans rfl, (blk_cell BK241.out 2).trans rfl, (blk_cell BK241.out 3).trans rfl, (blk_cell BK241.out 4).trans rfl, (blk_cell BK241.out 5).trans rfl⟩ (fun hHeld => ?_); refine with_tabW spec_MachineSame.tab1 spec_MachineSame.bits1 (fun HT_ HW_ => ?_)
   generalize w5.drew = w15 at BK240 BK241 HB hHeld ⊢
   refine p1_ 0 (some 6) (tf 1 16) HT_.out ?_
   refine p1_ 3 (some 9) #[true, false, false, true, false, false, false, false, false, false, false, false, false, false, false, false, false] HT_.out ?_
   refine take_ (i := 1) (N := some 7) (v := ?_) (a' := ?_) #[true, true, false, true, false, false, false, false, false, false, false, false, false, false, false, false, false] rfl rfl (take_ofW HT_.out HW_.out (by kernel_rfl)) (fun _ _ _ h => h) (Or.inl ⟨by rfl, ?_⟩) hHeld ?_ ?_
   rotate_left
   ·rintro w' ⟨s0, s1, s2, s3, s4, s5, s6, s7, s8, s9, s10, s11⟩
    go_simp
    with_reducible rfl
   rotate_left
   ·simp only [Act.put, List.setIfInBounds_toArray, List.set_cons_zero, List.set_cons_succ, i64_w, i32_w]
    rfl
   refine take_ (i := 4) (N := some 10) (v := ?_) (a' := ?_) #[true, true, false, true, true, false, false, false, false, false, false, false, false, false, false, false, false] rfl rfl (take_ofW HT_.out HW_.out (by kernel_rfl)) (fun _ _ _ h => h) (Or.inl ⟨by rfl, ?_⟩) hHeld ?_ ?_
   rotate_left
   ·rintro w' ⟨s0, s1, s2, s3, s4, s5, s6, s7, s8, s9, s10, s11⟩
    go_simp
    with_reducible rfl
   rotate_left
   ·simp only [Act.put, List.setIfInBounds_toArray, List.set_cons_zero, List.set_cons_succ, i64_w, i32_w]
    rfl
   refine one_ (i := 2) (N := some 8) (tf 5 12) rfl rfl (one_of HT_.out (by kernel_rfl)) (by decide) (fun K hK => ?_)
   refine goes_ Try.func36 (by kernel_rfl) rfl #[.agg #[.bool a0_0, .slice A0_1 l0_1.length c0_1, .slice A0_2 l0_2.length c0_2, .slice A0_3 l0_3.length c0_3, .slice A0_4 l0_4.length c0_4]] (by rfl) rfl rfl z0_ ?_
   with_reducible refine (spec_TreeMap.calls k a0_0 _ _ l0_1 _ _ l0_2 _ _ l0_3 _ _ l0_4 t242 _ ?side1 ?side2 ?side3 ?side4 ?side5 ?side6 ?side7 ?side8 A6.out).mono ?_
   (case side1 => exact z90_)
   (case side2 => exact z115_)
   (case side3 => exact z93_)
   (case side4 => exact z121_)
   (case side5 => exact z94_)
   (case side6 => exact z122_)
   (case side7 => exact z91_)
   (case side8 => exact z119_)
   rintro e w16 ⟨v243, rfl, ho0, hb⟩
   refine ⟨_, rfl, ?_⟩
   have HO244 := q_ (Kd.R_lower ho0 (below_size cb_))
   replace BK240 := rb_ BK240 hb
   replace BK241 := rb_ BK241 hb
   replace HB := hb_ hb
   (try clear hb)
   (try clear hb2)
   (try clear hk)
   (try clear hi)
   (try clear ho0)
   refine hK.out _ _ ⟨(blk_cell BK240.out 0).trans rfl, (blk_cell BK240.out 1).trans rfl, (blk_cell BK240.out 2).trans rfl, (blk_cell BK240.out 3).trans rfl, (blk_cell BK240.out 4).trans rfl, (blk_cell BK240.out 5).trans rfl, (blk_cell BK241.out 0).trans rfl, (blk_cell BK241.out 1).trans rfl, (blk_cell BK241.out 2).trans rfl, (blk_cell BK241.out 3).trans rfl, (blk_cell BK241.out 4).trans rfl, (blk_cell BK241.out 5).trans rfl⟩ (fun hHeld => ?_)
   clear hK K
   refine norm_ (a' := ?_) ?_ ?_
   rotate_left
   ·show Act.put _ (some 8) _ = _
    simp only [Act.put, List.setIfInBounds_toArray, List.set_cons_zero, List.set_cons_succ, i64_w, i32_w]
    rfl
   refine one_ (i := 5) (N := some 11) (tf 6 11) rfl rfl (one_of HT_.out (by kernel_rfl)) (by decide) (fun K hK => ?_)
   refine goes_ Try.func36 (by kernel_rfl) rfl #[.agg #[.bool a1_0, .slice A1_1 l1_1.length c1_1, .slice A1_2 l1_2.length c1_2, .slice A1_3 l1_3.length c1_3, .slice A1_4 l1_4.length c1_4]] (by rfl) rfl rfl z0_ ?_
   with_reducible refine (spec_TreeMap.calls k a1_0 _ _ l1_1 _ _ l1_2 _ _ l1_3 _ _ l1_4 t245 _ ?side1 ?side2 ?side3 ?side4 ?side5 ?side6 ?side7 ?side8 A7.out).mono ?_
   (case side1 => exact z95_)
   (case side2 => exact HC1_1.out)
   (case side3 => exact z96_)
   (case side4 => exact HC1_2.out)
   (case side5 => exact z98_)
   (case side6 => exact HC1_3.out)
   (case side7 => exact z97_)
   (case side8 => exact HC1_4.out)
   rintro e w17 ⟨v246, rfl, ho0, hb⟩
   refine ⟨_, rfl, ?_⟩
   have HO247 := q_ (Kd.R_lower (Kd.R_new' ho0 (Kd.R_lt z60_)) (below_size cb_))
   replace HO244 := q_ (Kd.R_elder' z60_ (Kd.R_base ho0) hb)
   replace BK240 := rb_ BK240 hb
   replace BK241 := rb_ BK241 hb
   replace HB := hb_ hb
   (try clear hb)
   (try clear hb2)
   (try clear hk)
   (try clear hi)
   (try clear ho0)
   obtain ⟨Ao18, co18, eo18⟩ := Kd.R_slice HO244.out
   (first | subst eo18 | (injection eo18 with f1_ f2_ f3_; have f4_ := f1_.symm; have f5_ := f3_.symm; clear f1_ f2_ f3_; subst f4_; subst f5_))
   obtain ⟨Ao19, co19, eo19⟩ := Kd.R_slice HO247.out
   (first | subst eo19 | (injection eo19 with f1_ f2_ f3_; have f4_ := f1_.symm; have f5_ := f3_.symm; clear f1_ f2_ f3_; subst f4_; subst f5_))
   refine hK.out _ _ ⟨(blk_cell BK240.out 0).trans rfl, (blk_cell BK240.out 1).trans rfl, (blk_cell BK240.out 2).trans rfl, (blk_cell BK240.out 3).trans rfl, (blk_cell BK240.out 4).trans rfl, (blk_cell BK240.out 5).trans rfl, (blk_cell BK241.out 0).trans rfl, (blk_cell BK241.out 1).trans rfl, (blk_cell BK241.out 2).trans rfl, (blk_cell BK241.out 3).trans rfl, (blk_cell BK241.out 4).trans rfl, (blk_cell BK241.out 5).trans rfl⟩ (fun hHeld => ?_)
   clear hK K
   refine norm_ (a' := ?_) ?_ ?_
   rotate_left
   ·show Act.put _ (some 11) _ = _
    simp only [Act.put, List.setIfInBounds_toArray, List.set_cons_zero, List.set_cons_succ, i64_w, i32_w]
    rfl
   refine one_ (i := 6) (N := some 12) (tf 7 10) rfl rfl (one_of HT_.out (by kernel_rfl)) (by decide) (fun K hK => ?_)
   refine goes_ Try.func87 (by kernel_rfl) rfl #[.slice Ao18 t242.length co18, .slice Ao19 t245.length co19] (by rfl) rfl rfl z0_ ?_
   with_reducible refine (spec_l4SameMap.calls k _ _ t242 _ _ t245 false _ ?side1 ?side2 ?side3 ?side4 A8.out).mono ?_
   (case side1 => exact z123_)
   (case side2 => exact (Kd.R_reads' HO244.out).2.1)
   (case side3 => exact z124_)
   (case side4 => exact (Kd.R_reads' HO247.out).2.1)
   rintro e w' ⟨rfl, ⟨nd, rfl⟩⟩
   refine ⟨_, rfl, ?_⟩
   refine hK.out _ _ ⟨(blk_cell BK240.out 0).trans rfl, (blk_cell BK240.out 1).trans rfl, (blk_cell BK240.out 2).trans rfl, (blk_cell BK240.out 3).trans rfl, (blk_cell BK240.out 4).trans rfl, (blk_cell BK240.out 5).trans rfl, (blk_cell BK241.out 0).trans rfl, (blk_cell BK241.out 1).trans rfl, (blk_cell BK241.out 2).trans rfl, (blk_cell BK241.out 3).trans rfl, (blk_cell BK241.out 4).trans rfl, (blk_cell BK241.out 5).trans rfl⟩ (fun hHeld => ?_)
   clear hK K
   refine norm_ (a' := ?_) ?_ ?_
   rotate_left
   ·show Act.put _ (some 12) _ = _
    simp only [Act.put, List.setIfInBounds_toArray, List.set_cons_zero, List.set_cons_succ, i64_w, i32_w]
    rfl
   refine p1_ 7 (some 13) (tf 8 9) HT_.out ?_
   refine p1_ 8 (some 14) (tf 9 8) HT_.out ?_
   refine p2_ 9 (some 15) (tf 10 7) HT_.out ?_
   refine p2_ 10 (some 16) (tf 11 6) HT_.out ?_
   refine p2_ 11 (some 17) (tf 12 5) HT_.out ?_
   refine p2_ 12 (some 18) (tf 13 4) HT_.out ?_
   refine p2_ 13 (some 19) (tf 14 3) HT_.out ?_
   refine p2_ 14 (some 20) (tf 15 2) HT_.out ?_
   refine p2_ 15 (some 21) (tf 16 1) HT_.out ?_
   refine p1_ 16 (some 22) (tf 17 0) HT_.out ?_
   refine done_ (done_of HT_.out (by kernel_rfl)) ?_
   try go_wp2
   go_meet
   case rel => exact ⟨_, (true), z4_, H', ⟨z43_⟩, ⟨z53_⟩, ⟨z54_⟩, ⟨cb_⟩⟩
 case rest =>
  clear HC3
  try clear c1
  try clear p2
  try clear c3
  try clear c4
  try clear c8
  try clear c9
  obtain ⟨kq, x22_2, rfl, HA, HJ2, BK240, BK241, HB⟩ := hcut
  obtain ⟨kj2, rfl, H⟩ := rn_ (k := kq) HA (by rintro rfl; simp only [spec_MachineSame.j0])
  clear HA
  simp only [spec_MachineSame.j0] at H
  replace H := kb_ H; rcases H with ⟨rfl, H⟩ | ⟨rfl, H⟩
  ·obtain rfl := si_ H
   go_wp2
   go_ret
   exact ⟨z1_, cb_⟩
  ·have H' := q_ H
   clear H
   go_wp2
   go_loopg [5] kj2 (fun kq v5 w' => ∃ (x5_2 : Int), v5 = .int .i64 x5_2 ∧ Aside0 (spec_MachineSame.l0 kq x5_2 a0_0 l0_1 l0_2 l0_3 l0_4 l0_5 a1_0 l1_1 l1_2 l1_3 l1_4 l1_5 = some r) ∧ Aside0 (kq ≤ kj2) ∧ Aside0 (w'.heap[gb240]? = some (.cells #[.bool a0_0, (.slice A0_1 l0_1.length c0_1), (.slice A0_2 l0_2.length c0_2), (.slice A0_3 l0_3.length c0_3), (.slice A0_4 l0_4.length c0_4), (.slice A0_5 l0_5.length c0_5)] 64 (0, 0))) ∧ Aside0 (w'.heap[gb241]? = some (.cells #[.bool a1_0, (.slice A1_1 l1_1.length c1_1), (.slice A1_2 l1_2.length c1_2), (.slice A1_3 l1_3.length c1_3), (.slice A1_4 l1_4.length c1_4), (.slice A1_5 l1_5.length c1_5)] 64 (0, 0))) ∧ Aside0 (Below w.heap.size w w'))
   case atStart => exact ⟨(0), z4_, H', ⟨Nat.le_refl _⟩, ⟨z53_⟩, ⟨z54_⟩, ⟨cb_⟩⟩
   case round =>
    clear H'
    try clear c1
    try clear c2
    try clear p2
    try clear c3
    try clear c4
    try clear c8
    try clear c9
    try clear c20
    try clear p2
    obtain ⟨x5_2, rfl, HA, HK2, BK240, BK241, HB⟩ := hrel
    obtain ⟨k2, rfl, H⟩ := rn_ (k := gk) HA (by rintro rfl; simp only [spec_MachineSame.l0])
    clear HA
    simp only [spec_MachineSame.l0] at H
    have HC21 := q_ H
    clear H
    have hnb22 := NB240_241.out
    have hnc22 := NB241_240.out
    obtain ⟨hz_, hz_, hz_, hz_, hz_, hz_, hz_, hz_, hz_, hz_, hz_, hz_⟩ := cs6_ BK240.out
    go_upto_if 27 with (fail)
    have H := HC21.out
    clear HC21
    replace H := kd_ H; rcases H with ⟨c24b0, H⟩ | ⟨c24b0, H⟩
    ·(first | rw [c24b0] | rw [c24b1] | (simp only [i64_w, i32_w]; first | rw [c24b0] | rw [c24b1]) | rw [c24b2] | skip)
     replace H := kdn_ H; obtain ⟨c25b0, H⟩ := H
     replace H := kdn_ H; obtain ⟨c26b0, H⟩ := H
     have HC27 := q_ H
     clear H
     try go_wp2
     replace BK240 := q_ (blk_drew BK240.out)
     replace BK241 := q_ (blk_drew BK241.out)
     replace HB := q_ (below_drew1 HB.out)
     have p249 : 0 ≤ (x5_2 : Int) := of_decide_eq_true z2_
     have q249 : x5_2 < (l0_5.length : Int) := of_decide_eq_true z2_
     obtain ⟨ad249, e249, hx249_0, hx249_1, hx249_2, hx249_3⟩ := at_T98 HR0_5.out x5_2 p249 q249
     have hw249_3 := hx249_3
     have hw249_2 := hx249_2
     have hw249_1 := hx249_1
     have hw249_0 := hx249_0
     cases e249
     replace hx249_0 := up_ HB hx249_0
     replace hx249_1 := up_ HB hx249_1
     replace hx249_2 := up_ HB hx249_2
     replace hx249_3 := up_ HB hx249_3
     replace p249 := eq_true p249
     replace q249 := eq_true q249
     have p250 : 0 ≤ (x5_2 : Int) := of_decide_eq_true z2_
     have q250 : x5_2 < (l1_5.length : Int) := of_decide_eq_true z2_
     obtain ⟨ad250, e250, hx250_0, hx250_1, hx250_2, hx250_3⟩ := at_T98 HR1_5.out x5_2 p250 q250
     have hw250_3 := hx250_3
     have hw250_2 := hx250_2
     have hw250_1 := hx250_1
     have hw250_0 := hx250_0
     cases e250
     replace hx250_0 := up_ HB hx250_0
     replace hx250_1 := up_ HB hx250_1
     replace hx250_2 := up_ HB hx250_2
     replace hx250_3 := up_ HB hx250_3
     replace p250 := eq_true p250
     replace q250 := eq_true q250
     refine start_ (n := 11) (S := fun w' => w'.cell? ⟨gb240, 0, none⟩ = some (.bool a0_0) ∧ w'.cell? ⟨gb240, 1, none⟩ = some (.slice A0_1 l0_1.length c0_1) ∧ w'.cell? ⟨gb240, 2, none⟩ = some (.slice A0_2 l0_2.length c0_2) ∧ w'.cell? ⟨gb240, 3, none⟩ = some (.slice A0_3 l0_3.length c0_3) ∧ w'.cell? ⟨gb240, 4, none⟩ = some (.slice A0_4 l0_4.length c0_4) ∧ w'.cell? ⟨gb240, 5, none⟩ = some (.slice (some ad249) l0_5.length c0_5) ∧ w'.cell? ⟨gb241, 0, none⟩ = some (.bool a1_0) ∧ w'.cell? ⟨gb241, 1, none⟩ = some (.slice A1_1 l1_1.length c1_1) ∧ w'.cell? ⟨gb241, 2, none⟩ = some (.slice A1_2 l1_2.length c1_2) ∧ w'.cell? ⟨gb241, 3, none⟩ = some (.slice A1_3 l1_3.length c1_3) ∧ w'.cell? ⟨gb241, 4, none⟩ = some (.slice A1_4 l1_4.length c1_4) ∧ w'.cell? ⟨gb241, 5, none⟩ = some (.slice (some ad250) l1_5.length c1_5) ∧ w'.cell? (ad249.add ((x5_2).toNat * 4)) = some (.int .i64 ((rd_T98 l0_5 x5_2).f0)) ∧ w'.cell? ⟨(ad249.add ((x5_2).toNat * 4)).block, (ad249.add ((x5_2).toNat * 4)).off + 1, none⟩ = some (.int .i64 ((rd_T98 l0_5 x5_2).f1)) ∧ w'.cell? ⟨(ad249.add ((x5_2).toNat * 4)).block, (ad249.add ((x5_2).toNat * 4)).off + 2, none⟩ = some (.int .i64 ((rd_T98 l0_5 x5_2).f2)) ∧ w'.cell? ⟨(ad249.add ((x5_2).toNat * 4)).block, (ad249.add ((x5_2).toNat * 4)).off + 3, none⟩ = some (.bool ((rd_T98 l0_5 x5_2).f3)) ∧ w'.cell? (ad250.add ((x5_2).toNat * 4)) = some (.int .i64 ((rd_T98 l1_5 x5_2).f0)) ∧ w'.cell? ⟨(ad250.add ((x5_2).toNat * 4)).block, (ad250.add ((x5_2).toNat * 4)).off + 1, none⟩ = some (.int .i64 ((rd_T98 l1_5 x5_2).f1)) ∧ w'.cell? ⟨(ad250.add ((x5_2).toNat * 4)).block, (ad250.add ((x5_2).toNat * 4)).off + 2, none⟩ = some (.int .i64 ((rd_T98 l1_5 x5_2).f2)) ∧ w'.cell? ⟨(ad250.add ((x5_2).toNat * 4)).block, (ad250.add ((x5_2).toNat * 4)).off + 3, none⟩ = some (.bool ((rd_T98 l1_5 x5_2).f3))) (ds := []) (tf 0 11) (by kernel_rfl) rfl rfl ⟨(blk_cell BK240.out 0).trans rfl, (blk_cell BK240.out 1).trans rfl, (blk_cell BK240.out 2).trans rfl, (blk_cell BK240.out 3).trans rfl, (blk_cell BK240.out 4).trans rfl, (blk_cell BK240.out 5).trans rfl, (blk_cell BK241.out 0).trans rfl, (blk_cell BK241.out 1).trans rfl, (blk_cell BK241.out 2).trans rfl, (blk_cell BK241.out 3).trans rfl, (blk_cell BK241.out 4).trans rfl, (blk_cell BK241.out 5).trans rfl, ((HB.out.cell (World.block_lt_of_cell? w _ hw249_0)).trans hw249_0), ((HB.out.cell (World.block_lt_of_cell? w _ hw249_1)).trans hw249_1), ((HB.out.cell (World.block_lt_of_cell? w _ hw249_2)).trans hw249_2), ((HB.out.cell (World.block_lt_of_cell? w _ hw249_3)).trans hw249_3), ((HB.out.cell (World.block_lt_of_cell? w _ hw250_0)).trans hw250_0), ((HB.out.cell (World.block_lt_of_cell? w _ hw250_1)).trans hw250_1), ((HB.out.cell (World.block_lt_of_cell? w _ hw250_2)).trans hw250_2), ((HB.out.cell (World.block_lt_of_cell? w _ hw250_3)).trans hw250_3)⟩ (fun hHeld => ?_); refine with_tabW spec_MachineSame.tab6 spec_MachineSame.bits6 (fun HT_ HW_ => ?_)
     generalize wr.drew = w28 at BK240 BK241 HB hx249_0 hx249_1 hx249_2 hx249_3 hx250_0 hx250_1 hx250_2 hx250_3 hHeld ⊢
     refine p1_ 0 (some 30) (tf 1 10) HT_.out ?_
     refine p1_ 2 (some 32) #[true, false, true, false, false, false, false, false, false, false, false] HT_.out ?_
     refine p1_ 5 (some 35) #[true, false, true, false, false, true, false, false, false, false, false] HT_.out ?_
     refine p1_ 7 (some 37) #[true, false, true, false, false, true, false, true, false, false, false] HT_.out ?_
     refine take_ (i := 1) (N := some 31) (v := ?_) (a' := ?_) #[true, true, true, false, false, true, false, true, false, false, false] rfl rfl (take_ofW HT_.out HW_.out (by kernel_rfl)) (fun _ _ _ h => h) (Or.inl ⟨by rfl, ?_⟩) hHeld ?_ ?_
     rotate_left
     ·rintro w' ⟨s0, s1, s2, s3, s4, s5, s6, s7, s8, s9, s10, s11, s12, s13, s14, s15, s16, s17, s18, s19⟩
      go_simp
      with_reducible rfl
     rotate_left
     ·simp only [Act.put, List.setIfInBounds_toArray, List.set_cons_zero, List.set_cons_succ, i64_w, i32_w]
      rfl
     refine p1_ 3 (some 33) #[true, true, true, true, false, true, false, true, false, false, false] HT_.out ?_
     refine take_ (i := 4) (N := some 34) (v := ?_) (a' := ?_) #[true, true, true, true, true, true, false, true, false, false, false] rfl rfl (take_ofW HT_.out HW_.out (by kernel_rfl)) (fun _ _ _ h => h) (Or.inl ⟨by rfl, ?_⟩) hHeld ?_ ?_
     rotate_left
     ·rintro w' ⟨s0, s1, s2, s3, s4, s5, s6, s7, s8, s9, s10, s11, s12, s13, s14, s15, s16, s17, s18, s19⟩
      go_simp
      with_reducible rfl
     rotate_left
     ·simp only [Act.put, List.setIfInBounds_toArray, List.set_cons_zero, List.set_cons_succ, i64_w, i32_w]
      rfl
     refine take_ (i := 6) (N := some 36) (v := ?_) (a' := ?_) (tf 8 3) rfl rfl (take_ofW HT_.out HW_.out (by kernel_rfl)) (fun _ _ _ h => h) (Or.inl ⟨by rfl, ?_⟩) hHeld ?_ ?_
     rotate_left
     ·rintro w' ⟨s0, s1, s2, s3, s4, s5, s6, s7, s8, s9, s10, s11, s12, s13, s14, s15, s16, s17, s18, s19⟩
      go_simp
      with_reducible rfl
     rotate_left
     ·simp only [Act.put, List.setIfInBounds_toArray, List.set_cons_zero, List.set_cons_succ, i64_w, i32_w]
      rfl
     refine p1_ 8 (some 38) (tf 9 2) HT_.out ?_
     refine take_ (i := 9) (N := some 39) (v := ?_) (a' := ?_) (tf 10 1) rfl rfl (take_ofW HT_.out HW_.out (by kernel_rfl)) (fun _ _ _ h => h) (Or.inl ⟨by rfl, ?_⟩) hHeld ?_ ?_
     rotate_left
     ·rintro w' ⟨s0, s1, s2, s3, s4, s5, s6, s7, s8, s9, s10, s11, s12, s13, s14, s15, s16, s17, s18, s19⟩
      go_simp
      with_reducible rfl
     rotate_left
     ·simp only [Act.put, List.setIfInBounds_toArray, List.set_cons_zero, List.set_cons_succ, i64_w, i32_w]
      rfl
     refine p1_ 10 (some 40) (tf 11 0) HT_.out ?_
     refine done_ (done_of HT_.out (by kernel_rfl)) ?_
     go_upto_if 40 with (fail)
     have H := HC27.out
     clear HC27
     by_cases c29 : (!(((rd_T98 l0_5 x5_2).f0) == ((rd_T98 l1_5 x5_2).f0)) || (!(((rd_T98 l0_5 x5_2).f1) == ((rd_T98 l1_5 x5_2).f1)) || (!(((rd_T98 l0_5 x5_2).f2) == ((rd_T98 l1_5 x5_2).f2)) || (!(((rd_T98 l0_5 x5_2).f3) == ((rd_T98 l1_5 x5_2).f3)))))) = true
     ·rw [if_pos c29] at H
      have c29b0 : (!(((rd_T98 l0_5 x5_2).f0) == ((rd_T98 l1_5 x5_2).f0)) || (!(((rd_T98 l0_5 x5_2).f1) == ((rd_T98 l1_5 x5_2).f1)) || (!(((rd_T98 l0_5 x5_2).f2) == ((rd_T98 l1_5 x5_2).f2)) || (!(((rd_T98 l0_5 x5_2).f3) == ((rd_T98 l1_5 x5_2).f3)))))) = true := c29
      clear c29
      (first | rw [c29b0] | rw [c29b1] | (simp only [i64_w, i32_w]; first | rw [c29b0] | rw [c29b1]) | rw [c29b2] | skip)
      obtain rfl := si_ H
      go_wp2
      go_ret
      exact ⟨z1_, cb_⟩
     ·rw [if_neg c29] at H
      have c29b0 : (!(((rd_T98 l0_5 x5_2).f0) == ((rd_T98 l1_5 x5_2).f0)) || (!(((rd_T98 l0_5 x5_2).f1) == ((rd_T98 l1_5 x5_2).f1)) || (!(((rd_T98 l0_5 x5_2).f2) == ((rd_T98 l1_5 x5_2).f2)) || (!(((rd_T98 l0_5 x5_2).f3) == ((rd_T98 l1_5 x5_2).f3)))))) = false := by simpa using c29
      clear c29
      (first | rw [c29b0] | rw [c29b1] | (simp only [i64_w, i32_w]; first | rw [c29b0] | rw [c29b1]) | rw [c29b2] | skip)
      have H' := q_ H
      clear H
      go_wp2
      go_roundg k2
      case measure => have := HJ2.out; have := HK2.out; omega
      case rel => exact ⟨(wrap64 (x5_2 + 1)), z4_, H', ⟨by have := HJ2.out; have := HK2.out; omega⟩, ⟨z53_⟩, ⟨z54_⟩, ⟨cb_⟩⟩
    ·(first | rw [c24b0] | rw [c24b1] | (simp only [i64_w, i32_w]; first | rw [c24b0] | rw [c24b1]) | rw [c24b2] | skip)
     obtain rfl := si_ H
     go_wp2
     go_ret
     exact ⟨z1_, cb_⟩

/-! ### laws_toPair: function 99 -/
def laws_toPair.f (a0_0 : Int) (a0_1 : Int) : Option (Int × Int) := some (a0_0, a0_1)
set_option maxHeartbeats 8000000 in
set_option maxRecDepth 100000 in
theorem laws_toPair.calls (a0_0 : Int) (a0_1 : Int) (r1 : Int) (r2 : Int) (w : World) (h : laws_toPair.f a0_0 a0_1 = some (r1, r2)) :
  Calls Try.prog 99 #[.agg #[.int .i64 a0_0, .int .i64 a0_1]] w fun e w' => e = .returned (.agg #[.int .i64 r1, .int .i64 r2]) ∧ Below w.heap.size w w' := by
 have hu107 := Try.underlying107
 have hu92 := Try.underlying92
 have HB := q_ (Below.refl w.heap.size w)
 have H := h; clear h
 unfold laws_toPair.f at H
 obtain ⟨rfl, rfl⟩ := s2_ H
 go_enter Try.func99, Try.ntmps99
 go_wp2_with (first | ((with_reducible refine gate_dst (N := 1) rfl ?_); refine box_event ?hg (N := 1) ?hd (cs := #[.int .i64 a0_0, .int .i64 a0_1]) (t := 107) ?hr ?_; (case hd => rfl); (case hg => rfl); (case hr => exact z92_); intro gb251 hg w2 hbox hb; have BK251 := q_ (hbox); have GW251 := ge_ hg; have GE251 := ge_ hg; replace HB := hb_ hb; clear hb hbox hg) | ((with_reducible refine gate_dst (N := 2) rfl ?_); refine box_event ?hg (N := 2) ?hd (cs := #[.int .i64 0, .int .i64 0]) (t := 92) ?hr ?_; (case hd => rfl); (case hg => rfl); (case hr => exact z92_); intro gb252 hg w3 hbox hb; have BK252 := q_ (hbox); have GW252 := ge_ hg; have GE252 := ge_ hg; replace HB := hb_ hb; have NB251_252 := nl_ hg BK251; have NB252_251 := nr_ hg BK251; replace BK251 := rb_ BK251 hb; clear hb hbox hg) | ((with_reducible refine gate_dst (N := 3) rfl ?_); refine box_event ?hg (N := 3) ?hd (cs := #[.int .i64 0, .int .i64 0]) (t := 92) ?hr ?_; (case hd => rfl); (case hg => rfl); (case hr => exact z92_); intro gb253 hg w4 hbox hb; have BK253 := q_ (hbox); have GW253 := ge_ hg; have GE253 := ge_ hg; replace HB := hb_ hb; have NB251_253 := nl_ hg BK251; have NB253_251 := nr_ hg BK251; replace BK251 := rb_ BK251 hb; have NB252_253 := nl_ hg BK252; have NB253_252 := nr_ hg BK252; replace BK252 := rb_ BK252 hb; clear hb hbox hg; have hnb5 := NB251_252.out; have hnc5 := NB252_251.out; have hnb6 := NB251_253.out; have hnc6 := NB253_251.out; obtain ⟨hz_, hz_, hz_, hz_⟩ := cs2_ BK251.out; have hnb8 := NB253_252.out; have hnc8 := NB252_253.out; obtain ⟨hz_, hz_, hz_, hz_⟩ := cs2_ BK253.out; obtain ⟨hz_, hz_, hz_, hz_⟩ := cs2_ BK252.out))
 refine bodyPost_ret (results_cell_row rfl _ _ gb252 92 #[.int .i64 a0_0, .int .i64 a0_1] (0, 0) _ rfl (by (with_reducible repeat (first | refine blk_drewN ?_ _ | refine blk_drew ?_ | refine blk_alloc ?_ _)); refine blk_put (cs := #[.int .i64 a0_0, .int .i64 0]) ?_ 1 _ rfl; (with_reducible repeat (first | refine blk_drewN ?_ _ | refine blk_drew ?_ | refine blk_alloc ?_ _)); refine blk_put (cs := #[.int .i64 0, .int .i64 0]) ?_ 0 _ rfl; (with_reducible repeat (first | refine blk_drewN ?_ _ | refine blk_drew ?_ | refine blk_alloc ?_ _)); refine blk_far ?_ NB252_253.out _; (with_reducible repeat (first | refine blk_drewN ?_ _ | refine blk_drew ?_ | refine blk_alloc ?_ _)); refine blk_far ?_ NB252_253.out _; (with_reducible repeat (first | refine blk_drewN ?_ _ | refine blk_drew ?_ | refine blk_alloc ?_ _)); exact BK252.out) Try.underlying92 rfl (by kernel_rfl)) rfl ?_
 exact ⟨z1_, cb_⟩

end Go.Proofs.Ytfnndcpaldkkoaa.PFnExactMachineSame
