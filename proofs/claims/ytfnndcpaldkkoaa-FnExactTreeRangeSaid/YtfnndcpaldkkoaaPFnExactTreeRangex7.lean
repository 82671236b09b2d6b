-- Written by a program of this session, which goes by the kit's print. Not trusted: Lean checks it.
import Derived.Test.YtfnndcpaldkkoaaPFnExactTreeRangex0
import Derived.Test.YtfnndcpaldkkoaaPFnExactTreeRangex6
namespace Go.Proofs.Ytfnndcpaldkkoaa.PFnExactTreeRange
open Go.RowKit Go.Proofs.YtfnndcpaldkkoaaW.PrintWords Go.Proofs.YtfnndcpaldkkoaaW.PrintLast Go.Proofs.YtfnndcpaldkkoaaW.PrintMore
attribute [local go_sem] Instr.field asAgg max2_int min2_int max_two min_two max_three min_three max_four min_four   -- for this text's walks alone
set_option linter.unusedVariables false
set_option linter.unusedSimpArgs false

/-! ### spec_MapOk: function 120 -/
def spec_MapOk.l0 : Nat → List (S92) → Int → Option (Bool)
 | 0, _, _ => none
 | k + 1, x0, x3 => if x3 < (x0.length : Int) then (if 0 ≤ x3 then ((spec_l1In.f ((rd_T92 x0 x3).f0) 0 999).bind fun t198 => (if t198 = true then ((spec_l1Value.f ((rd_T92 x0 x3).f1)).bind fun t200 => (if t200 = true then (if x3 > 0 then (if 0 ≤ (wrap64 (x3 - 1)) then (if (wrap64 (x3 - 1)) < (x0.length : Int) then (if ((rd_T92 x0 (wrap64 (x3 - 1))).f0) ≥ ((rd_T92 x0 x3).f0) then (some false) else (spec_MapOk.l0 k x0 (wrap64 (x3 + 1)))) else (none)) else (none)) else (spec_MapOk.l0 k x0 (wrap64 (x3 + 1)))) else (some false))) else (some false))) else (none)) else (some true)
def spec_MapOk.f (k : Nat) (l0 : List (S92)) : Option (Bool) := spec_MapOk.l0 k l0 0
theorem spec_MapOk.mono_l : ∀ k, (∀ y0 y1, LeO (spec_MapOk.l0 k y0 y1) (spec_MapOk.l0 (k + 1) y0 y1))
 | 0 => fun _ _ r h => by simp [spec_MapOk.l0] at h
 | k + 1 => by
  have ih0 := spec_MapOk.mono_l k
  ·intro y0 y1
   unfold spec_MapOk.l0
   exact zm_
theorem spec_MapOk.mono : ∀ a0 k, LeO (spec_MapOk.f k a0) (spec_MapOk.f (k + 1) a0) := by
 intro a0 k
 have ih0 := spec_MapOk.mono_l k
 unfold spec_MapOk.f
 exact zm_
def spec_MapOk.T4 : Bool × List (List Nat × List Nat) := (true, [([], []), ([], []), ([0, 1], [0, 1]), ([2], [2]), ([3], [3]), ([4], [4]), ([5], [5]), ([6, 5], [6]), ([7], [7]), ([7], [7]), ([8, 9, 7], [7, 8, 9]), ([10, 7], [7, 10]), ([11, 7], [7, 11]), ([12, 7, 7], [7, 12]), ([13, 7], [7, 13]), ([7, 14], [7, 14]), ([15, 13], [15]), ([16], [16]), ([17, 16], [16, 17]), ([18, 16, 16], [16, 18]), ([19], [19]), ([19], [19]), ([21, 19], [19, 21]), ([20, 22, 19], [19, 20, 22]), ([23, 19], [19, 23]), ([24, 19], [19, 24]), ([19], [19]), ([19], [19]), ([26, 27, 19], [19, 26, 27]), ([28, 19], [19, 28]), ([29, 19], [19, 29]), ([25, 30, 19], [19, 25, 30]), ([19, 31, 16], [16, 19, 31]), ([16, 32], [16, 32])])
def spec_MapOk.B4 : List Nat := [0, 0, 3, 7, 15, 31, 63, 127, 255, 255, 1023, 2047, 4095, 8191, 16383, 32767, 65535, 131071, 262143, 524287, 1048575, 1048575, 3145727, 8388607, 16777215, 33554431, 1048575, 1048575, 202375167, 470810623, 1007681535, 2147483647, 4294967295, 8589934591]
theorem spec_MapOk.tab4 : rtab .any (opsOf Try.f120 4) = spec_MapOk.T4 := by kernel_rfl
theorem spec_MapOk.bits4 : waitsOk spec_MapOk.T4.2 spec_MapOk.B4 = true := by kernel_rfl
set_option maxHeartbeats 8000000 in
set_option maxRecDepth 100000 in
theorem spec_MapOk.calls (k : Nat) (A0 : Option Addr) (c0 : Nat) (l0 : List (S92)) (r : Bool) (w : World) (hr0 : Kd.C k92 w A0 l0.length l0) (hc0 : l0.length ≤ c0) (h : spec_MapOk.f k l0 = some r) :
  Calls Try.prog 120 #[.slice A0 l0.length c0] w fun e w' => e = .returned (.bool r) ∧ Below w.heap.size w w' := by
 have HR0 := q_ hr0
 have HC0 := q_ hc0
 clear hr0 hc0
 have HB := q_ (Below.refl w.heap.size w)
 have H := h; clear h
 unfold spec_MapOk.f at H
 have H' := q_ H
 clear H
 go_enter Try.func120, Try.ntmps120
 go_wp2
 go_loopg [3] k (fun kq v3 w' => ∃ (x3_1 : Int), v3 = .int .i64 x3_1 ∧ Aside0 (spec_MapOk.l0 kq l0 x3_1 = some r) ∧ Aside0 (kq ≤ k) ∧ Aside0 (Below w.heap.size w w'))
 case atStart => exact ⟨(0), z4_, H', ⟨Nat.le_refl _⟩, ⟨cb_⟩⟩
 case round =>
  clear H'
  try clear c1
  obtain ⟨x3_1, rfl, HA, HK1, HB⟩ := hrel
  obtain ⟨k1, rfl, H⟩ := rn_ (k := gk) HA (by rintro rfl; simp only [spec_MapOk.l0])
  clear HA
  simp only [spec_MapOk.l0] at H
  replace H := kd_ H; rcases H with ⟨c2b0, H⟩ | ⟨c2b0, H⟩
  ·replace H := kdn_ H; obtain ⟨c3b0, H⟩ := H
   replace H := bi_ H; obtain ⟨t198, A4, H⟩ := H
   replace H := kb_ H; rcases H with ⟨rfl, H⟩ | ⟨rfl, H⟩
   ·replace H := bi_ H; obtain ⟨t200, A6, H⟩ := H
    replace H := kb_ H; rcases H with ⟨rfl, H⟩ | ⟨rfl, H⟩
    ·replace H := kg_ H; rcases H with ⟨c8b0, H⟩ | ⟨c8b0, H⟩
     ·obtain ⟨ji9, hji9⟩ : ∃ j_ : Int, (wrap64 (x3_1 - 1)) = j_ := ⟨_, rfl⟩
      replace H : (if 0 ≤ (ji9) then (if (ji9) < (l0.length : Int) then (if ((rd_T92 l0 (ji9)).f0) ≥ ((rd_T92 l0 x3_1).f0) then (some false) else (spec_MapOk.l0 k1 l0 (wrap64 (x3_1 + 1)))) else (none)) else (none)) = some r := by first | (rw [hji9] at H; exact H) | (simp only [hji9] at H ⊢; exact H)
      (try rw [hji9] at A4)
      (try rw [hji9] at A6)
      have hji9w : (IntKind.i64.wrap (x3_1 - 1)) = ji9 := (i64_w _).trans hji9
      replace H := kdn_ H; obtain ⟨c10b0, H⟩ := H
      replace H := kdn_ H; obtain ⟨c11b0, H⟩ := H
      have HC12 := q_ H
      clear H
      try go_wp2
      replace HB := q_ (below_drew1 HB.out)
      have p197 : 0 ≤ (x3_1 : Int) := of_decide_eq_true z1_
      have q197 : x3_1 < (l0.length : Int) := of_decide_eq_true z1_
      obtain ⟨ad197, e197, hx197_0, hx197_1⟩ := at_T92 HR0.out x3_1 p197 q197
      have hw197_1 := hx197_1
      have hw197_0 := hx197_0
      cases e197
      replace hx197_0 := up_ HB hx197_0
      replace hx197_1 := up_ HB hx197_1
      replace p197 := eq_true p197
      replace q197 := eq_true q197
      have p199 : 0 ≤ (x3_1 : Int) := of_decide_eq_true z1_
      have q199 : x3_1 < (l0.length : Int) := of_decide_eq_true z1_
      obtain ⟨ad199, e199, hx199_0, hx199_1⟩ := at_T92 HR0.out x3_1 p199 q199
      have hw199_1 := hx199_1
      have hw199_0 := hx199_0
      obtain rfl : ad197 = ad199 := (by injection e199)
      replace hx199_0 := up_ HB hx199_0
      replace hx199_1 := up_ HB hx199_1
      replace p199 := eq_true p199
      replace q199 := eq_true q199
      have p201 : 0 ≤ ((ji9) : Int) := of_decide_eq_true z1_
      have q201 : (ji9) < (l0.length : Int) := of_decide_eq_true z1_
      obtain ⟨ad201, e201, hx201_0, hx201_1⟩ := at_T92 HR0.out (ji9) p201 q201
      have hw201_1 := hx201_1
      have hw201_0 := hx201_0
      obtain rfl : ad197 = ad201 := (by injection e201)
      replace hx201_0 := up_ HB hx201_0
      replace hx201_1 := up_ HB hx201_1
      replace p201 := eq_true p201
      replace q201 := eq_true q201
      have p202 : 0 ≤ (x3_1 : Int) := of_decide_eq_true z1_
      have q202 : x3_1 < (l0.length : Int) := of_decide_eq_true z1_
      obtain ⟨ad202, e202, hx202_0, hx202_1⟩ := at_T92 HR0.out x3_1 p202 q202
      have hw202_1 := hx202_1
      have hw202_0 := hx202_0
      obtain rfl : ad197 = ad202 := (by injection e202)
      replace hx202_0 := up_ HB hx202_0
      replace hx202_1 := up_ HB hx202_1
      replace p202 := eq_true p202
      replace q202 := eq_true q202
      refine start_ (n := 34) (S := fun w' => w'.cell? (ad197.add ((x3_1).toNat * 2)) = some (.int .i64 ((rd_T92 l0 x3_1).f0)) ∧ w'.cell? ⟨(ad197.add ((x3_1).toNat * 2)).block, (ad197.add ((x3_1).toNat * 2)).off + 1, none⟩ = some (.int .i64 ((rd_T92 l0 x3_1).f1)) ∧ w'.cell? (ad197.add ((x3_1).toNat * 2)) = some (.int .i64 ((rd_T92 l0 x3_1).f0)) ∧ w'.cell? ⟨(ad197.add ((x3_1).toNat * 2)).block, (ad197.add ((x3_1).toNat * 2)).off + 1, none⟩ = some (.int .i64 ((rd_T92 l0 x3_1).f1)) ∧ w'.cell? (ad197.add (((ji9)).toNat * 2)) = some (.int .i64 ((rd_T92 l0 (ji9)).f0)) ∧ w'.cell? ⟨(ad197.add (((ji9)).toNat * 2)).block, (ad197.add (((ji9)).toNat * 2)).off + 1, none⟩ = some (.int .i64 ((rd_T92 l0 (ji9)).f1)) ∧ w'.cell? (ad197.add ((x3_1).toNat * 2)) = some (.int .i64 ((rd_T92 l0 x3_1).f0)) ∧ w'.cell? ⟨(ad197.add ((x3_1).toNat * 2)).block, (ad197.add ((x3_1).toNat * 2)).off + 1, none⟩ = some (.int .i64 ((rd_T92 l0 x3_1).f1))) (ds := []) (tf 0 34) (by kernel_rfl) rfl rfl ⟨((HB.out.cell (World.block_lt_of_cell? w _ hw197_0)).trans hw197_0), ((HB.out.cell (World.block_lt_of_cell? w _ hw197_1)).trans hw197_1), ((HB.out.cell (World.block_lt_of_cell? w _ hw199_0)).trans hw199_0), ((HB.out.cell (World.block_lt_of_cell? w _ hw199_1)).trans hw199_1), ((HB.out.cell (World.block_lt_of_cell? w _ hw201_0)).trans hw201_0), ((HB.out.cell (World.block_lt_of_cell? w _ hw201_1)).trans hw201_1), ((HB.out.cell (World.block_lt_of_cell? w _ hw202_0)).trans hw202_0), ((HB.out.cell (World.block_lt_of_cell? w _ hw202_1)).trans hw202_1)⟩ (fun hHeld => ?_); refine with_tabW spec_MapOk.tab4 spec_MapOk.bits4 (fun HT_ HW_ => ?_)
      generalize wr.drew = w13 at HB hx197_0 hx197_1 hx199_0 hx199_1 hx201_0 hx201_1 hx202_0 hx202_1 hHeld ⊢
      refine p1_ 0 (some 10) (tf 1 33) HT_.out ?_
      refine p1_ 1 (some 11) (tf 2 32) HT_.out ?_
      refine p1_ 2 (some 12) (tf 3 31) HT_.out ?_
      refine p1_ 3 (some 13) (tf 4 30) HT_.out ?_
      refine take_ (i := 4) (N := some 14) (v := ?_) (a' := ?_) (tf 5 29) rfl rfl (take_ofW HT_.out HW_.out (by kernel_rfl)) (fun _ _ _ h => h) (Or.inl ⟨by rfl, ?_⟩) hHeld ?_ ?_
      rotate_left
      ·rintro w' ⟨s0, s1, s2, s3, s4, s5, s6, s7⟩
       go_simp
       with_reducible rfl
      rotate_left
      ·simp only [Act.put, List.setIfInBounds_toArray, List.set_cons_zero, List.set_cons_succ, i64_w, i32_w]
       rfl
      refine one_ (i := 5) (N := some 15) (tf 6 28) rfl rfl (one_of HT_.out (by kernel_rfl)) (by decide) (fun K hK => ?_)
      refine goes_ Try.func97 (by kernel_rfl) rfl #[.int .i64 ((rd_T92 l0 x3_1).f0), .int .i64 0, .int .i64 999] (by rfl) rfl rfl z0_ ?_
      with_reducible refine (spec_l1In.calls ((rd_T92 l0 x3_1).f0) 0 999 true _ A4.out).mono ?_
      rintro e w' ⟨rfl, ⟨nd, rfl⟩⟩
      refine ⟨_, rfl, ?_⟩
      refine hK.out _ _ ⟨((HB.out.cell (World.block_lt_of_cell? w _ hw197_0)).trans hw197_0), ((HB.out.cell (World.block_lt_of_cell? w _ hw197_1)).trans hw197_1), ((HB.out.cell (World.block_lt_of_cell? w _ hw199_0)).trans hw199_0), ((HB.out.cell (World.block_lt_of_cell? w _ hw199_1)).trans hw199_1), ((HB.out.cell (World.block_lt_of_cell? w _ hw201_0)).trans hw201_0), ((HB.out.cell (World.block_lt_of_cell? w _ hw201_1)).trans hw201_1), ((HB.out.cell (World.block_lt_of_cell? w _ hw202_0)).trans hw202_0), ((HB.out.cell (World.block_lt_of_cell? w _ hw202_1)).trans hw202_1)⟩ (fun hHeld => ?_)
      clear hK K
      refine norm_ (a' := ?_) ?_ ?_
      rotate_left
      ·show Act.put _ (some 15) _ = _
       simp only [Act.put, List.setIfInBounds_toArray, List.set_cons_zero, List.set_cons_succ, i64_w, i32_w]
       rfl
      refine p1_ 6 (some 16) (tf 7 27) HT_.out ?_
      refine p1_ 7 (some 17) (tf 8 26) HT_.out ?_
      refine p1_ 8 (some 18) (tf 9 25) HT_.out ?_
      refine p1_ 9 (some 19) (tf 10 24) HT_.out ?_
      refine p1_ 10 (some 20) (tf 11 23) HT_.out ?_
      refine p1_ 11 (some 21) (tf 12 22) HT_.out ?_
      refine take_ (i := 12) (N := some 22) (v := ?_) (a' := ?_) (tf 13 21) rfl rfl (take_ofW HT_.out HW_.out (by kernel_rfl)) (fun _ _ _ h => h) (Or.inl ⟨by rfl, ?_⟩) hHeld ?_ ?_
      rotate_left
      ·rintro w' ⟨s0, s1, s2, s3, s4, s5, s6, s7⟩
       go_simp
       with_reducible rfl
      rotate_left
      ·simp only [Act.put, List.setIfInBounds_toArray, List.set_cons_zero, List.set_cons_succ, i64_w, i32_w]
       rfl
      refine one_ (i := 13) (N := some 23) (tf 14 20) rfl rfl (one_of HT_.out (by kernel_rfl)) (by decide) (fun K hK => ?_)
      refine goes_ Try.func121 (by kernel_rfl) rfl #[.int .i64 ((rd_T92 l0 x3_1).f1)] (by rfl) rfl rfl z0_ ?_
      with_reducible refine (spec_l1Value.calls ((rd_T92 l0 x3_1).f1) true _ A6.out).mono ?_
      rintro e w' ⟨rfl, ⟨nd, rfl⟩⟩
      refine ⟨_, rfl, ?_⟩
      refine hK.out _ _ ⟨((HB.out.cell (World.block_lt_of_cell? w _ hw197_0)).trans hw197_0), ((HB.out.cell (World.block_lt_of_cell? w _ hw197_1)).trans hw197_1), ((HB.out.cell (World.block_lt_of_cell? w _ hw199_0)).trans hw199_0), ((HB.out.cell (World.block_lt_of_cell? w _ hw199_1)).trans hw199_1), ((HB.out.cell (World.block_lt_of_cell? w _ hw201_0)).trans hw201_0), ((HB.out.cell (World.block_lt_of_cell? w _ hw201_1)).trans hw201_1), ((HB.out.cell (World.block_lt_of_cell? w _ hw202_0)).trans hw202_0), ((HB.out.cell (World.block_lt_of_cell? w _ hw202_1)).trans hw202_1)⟩ (fun hHeld => ?_)
      clear hK K
      refine norm_ (a' := ?_) ?_ ?_
      rotate_left
      ·show Act.put _ (some 23) _ = _
       simp only [Act.put, List.setIfInBounds_toArray, List.set_cons_zero, List.set_cons_succ, i64_w, i32_w]
       rfl
      refine p1_ 14 (some 24) (tf 15 19) HT_.out ?_
      refine p1_ 15 (some 25) (tf 16 18) HT_.out ?_
      refine p1_ 16 (some 26) (tf 17 17) HT_.out ?_
      refine p1_ 17 (some 27) (tf 18 16) HT_.out ?_
      refine p1_ 18 (some 28) (tf 19 15) HT_.out ?_
      refine p1_ 19 (some 29) (tf 20 14) HT_.out ?_
      refine p1_ 20 (some 30) (tf 21 13) HT_.out ?_
      refine p1_ 21 (some 31) (tf 22 12) HT_.out ?_
      refine p1_ 22 (some 32) (tf 23 11) HT_.out ?_
      refine p1_ 23 (some 33) (tf 24 10) HT_.out ?_
      refine p1_ 24 (some 34) (tf 25 9) HT_.out ?_
      refine p1_ 26 (some 36) #[true, true, true, true, true, true, true, true, true, true, true, true, true, true, true, true, true, true, true, true, true, true, true, true, true, false, true, false, false, false, false, false, false, false] HT_.out ?_
      refine p1_ 27 (some 37) #[true, true, true, true, true, true, true, true, true, true, true, true, true, true, true, true, true, true, true, true, true, true, true, true, true, false, true, true, false, false, false, false, false, false] HT_.out ?_
      refine p1_ 28 (some 38) #[true, true, true, true, true, true, true, true, true, true, true, true, true, true, true, true, true, true, true, true, true, true, true, true, true, false, true, true, true, false, false, false, false, false] HT_.out ?_
      refine p1_ 29 (some 39) #[true, true, true, true, true, true, true, true, true, true, true, true, true, true, true, true, true, true, true, true, true, true, true, true, true, false, true, true, true, true, false, false, false, false] HT_.out ?_
      refine take_ (i := 25) (N := some 35) (v := ?_) (a' := ?_) (tf 30 4) rfl rfl (take_ofW HT_.out HW_.out (by kernel_rfl)) (fun _ _ _ h => h) (Or.inl ⟨by rfl, ?_⟩) hHeld ?_ ?_
      rotate_left
      ·rintro w' ⟨s0, s1, s2, s3, s4, s5, s6, s7⟩
       go_simp
       with_reducible rfl
      rotate_left
      ·simp only [Act.put, List.setIfInBounds_toArray, List.set_cons_zero, List.set_cons_succ, i64_w, i32_w]
       rfl
      refine take_ (i := 30) (N := some 40) (v := ?_) (a' := ?_) (tf 31 3) rfl rfl (take_ofW HT_.out HW_.out (by kernel_rfl)) (fun _ _ _ h => h) (Or.inl ⟨by rfl, ?_⟩) hHeld ?_ ?_
      rotate_left
      ·rintro w' ⟨s0, s1, s2, s3, s4, s5, s6, s7⟩
       go_simp
       with_reducible rfl
      rotate_left
      ·simp only [Act.put, List.setIfInBounds_toArray, List.set_cons_zero, List.set_cons_succ, i64_w, i32_w]
       rfl
      refine p1_ 31 (some 41) (tf 32 2) HT_.out ?_
      refine p1_ 32 (some 42) (tf 33 1) HT_.out ?_
      refine p1_ 33 (some 43) (tf 34 0) HT_.out ?_
      refine done_ (done_of HT_.out (by kernel_rfl)) ?_
      go_upto_if 43 with (fail)
      have H := HC12.out
      clear HC12
      by_cases c14 : ((rd_T92 l0 (ji9)).f0) ≥ ((rd_T92 l0 x3_1).f0)
      ·rw [if_pos c14] at H
       have c14b0 : decide (((rd_T92 l0 x3_1).f0) ≤ ((rd_T92 l0 (ji9)).f0)) = true := decide_eq_true c14
       clear c14
       (first | rw [c14b0] | rw [c14b1] | (simp only [i64_w, i32_w]; first | rw [c14b0] | rw [c14b1]) | rw [c14b2] | skip)
       obtain rfl := si_ H
       go_wp2
       go_ret
       exact ⟨by first | rfl | (simp [errW_none, errW_some] <;> rfl) | (simp only [← hji9]; first | rfl | (simp [errW_none, errW_some] <;> rfl)) | (simp [*, errW_none, errW_some] <;> rfl), cb_⟩
      ·rw [if_neg c14] at H
       have c14b0 : decide (((rd_T92 l0 x3_1).f0) ≤ ((rd_T92 l0 (ji9)).f0)) = false := decide_eq_false c14
       clear c14
       (first | rw [c14b0] | rw [c14b1] | (simp only [i64_w, i32_w]; first | rw [c14b0] | rw [c14b1]) | rw [c14b2] | skip)
       have H' := q_ H
       clear H
       go_wp2
       go_roundg k1
       case measure => have := HK1.out; omega
       case rel => exact ⟨(wrap64 (x3_1 + 1)), z4_, H', ⟨z25_⟩, ⟨cb_⟩⟩
     ·have H' := q_ H
      clear H
      try go_wp2
      replace HB := q_ (below_drew1 HB.out)
      have p197 : 0 ≤ (x3_1 : Int) := of_decide_eq_true z1_
      have q197 : x3_1 < (l0.length : Int) := of_decide_eq_true z1_
      obtain ⟨ad197, e197, hx197_0, hx197_1⟩ := at_T92 HR0.out x3_1 p197 q197
      have hw197_1 := hx197_1
      have hw197_0 := hx197_0
      cases e197
      replace hx197_0 := up_ HB hx197_0
      replace hx197_1 := up_ HB hx197_1
      replace p197 := eq_true p197
      replace q197 := eq_true q197
      have p199 : 0 ≤ (x3_1 : Int) := of_decide_eq_true z1_
      have q199 : x3_1 < (l0.length : Int) := of_decide_eq_true z1_
      obtain ⟨ad199, e199, hx199_0, hx199_1⟩ := at_T92 HR0.out x3_1 p199 q199
      have hw199_1 := hx199_1
      have hw199_0 := hx199_0
      obtain rfl : ad197 = ad199 := (by injection e199)
      replace hx199_0 := up_ HB hx199_0
      replace hx199_1 := up_ HB hx199_1
      replace p199 := eq_true p199
      replace q199 := eq_true q199
      refine start_ (n := 34) (S := fun w' => w'.cell? (ad197.add ((x3_1).toNat * 2)) = some (.int .i64 ((rd_T92 l0 x3_1).f0)) ∧ w'.cell? ⟨(ad197.add ((x3_1).toNat * 2)).block, (ad197.add ((x3_1).toNat * 2)).off + 1, none⟩ = some (.int .i64 ((rd_T92 l0 x3_1).f1)) ∧ w'.cell? (ad197.add ((x3_1).toNat * 2)) = some (.int .i64 ((rd_T92 l0 x3_1).f0)) ∧ w'.cell? ⟨(ad197.add ((x3_1).toNat * 2)).block, (ad197.add ((x3_1).toNat * 2)).off + 1, none⟩ = some (.int .i64 ((rd_T92 l0 x3_1).f1))) (ds := []) (tf 0 34) (by kernel_rfl) rfl rfl ⟨((HB.out.cell (World.block_lt_of_cell? w _ hw197_0)).trans hw197_0), ((HB.out.cell (World.block_lt_of_cell? w _ hw197_1)).trans hw197_1), ((HB.out.cell (World.block_lt_of_cell? w _ hw199_0)).trans hw199_0), ((HB.out.cell (World.block_lt_of_cell? w _ hw199_1)).trans hw199_1)⟩ (fun hHeld => ?_); refine with_tabW spec_MapOk.tab4 spec_MapOk.bits4 (fun HT_ HW_ => ?_)
      generalize wr.drew = w15 at HB hx197_0 hx197_1 hx199_0 hx199_1 hHeld ⊢
      refine p1_ 0 (some 10) (tf 1 33) HT_.out ?_
      refine p1_ 1 (some 11) (tf 2 32) HT_.out ?_
      refine p1_ 2 (some 12) (tf 3 31) HT_.out ?_
      refine p1_ 3 (some 13) (tf 4 30) HT_.out ?_
      refine take_ (i := 4) (N := some 14) (v := ?_) (a' := ?_) (tf 5 29) rfl rfl (take_ofW HT_.out HW_.out (by kernel_rfl)) (fun _ _ _ h => h) (Or.inl ⟨by rfl, ?_⟩) hHeld ?_ ?_
      rotate_left
      ·rintro w' ⟨s0, s1, s2, s3⟩
       go_simp
       with_reducible rfl
      rotate_left
      ·simp only [Act.put, List.setIfInBounds_toArray, List.set_cons_zero, List.set_cons_succ, i64_w, i32_w]
       rfl
      refine one_ (i := 5) (N := some 15) (tf 6 28) rfl rfl (one_of HT_.out (by kernel_rfl)) (by decide) (fun K hK => ?_)
      refine goes_ Try.func97 (by kernel_rfl) rfl #[.int .i64 ((rd_T92 l0 x3_1).f0), .int .i64 0, .int .i64 999] (by rfl) rfl rfl z0_ ?_
      with_reducible refine (spec_l1In.calls ((rd_T92 l0 x3_1).f0) 0 999 true _ A4.out).mono ?_
      rintro e w' ⟨rfl, ⟨nd, rfl⟩⟩
      refine ⟨_, rfl, ?_⟩
      refine hK.out _ _ ⟨((HB.out.cell (World.block_lt_of_cell? w _ hw197_0)).trans hw197_0), ((HB.out.cell (World.block_lt_of_cell? w _ hw197_1)).trans hw197_1), ((HB.out.cell (World.block_lt_of_cell? w _ hw199_0)).trans hw199_0), ((HB.out.cell (World.block_lt_of_cell? w _ hw199_1)).trans hw199_1)⟩ (fun hHeld => ?_)
      clear hK K
      refine norm_ (a' := ?_) ?_ ?_
      rotate_left
      ·show Act.put _ (some 15) _ = _
       simp only [Act.put, List.setIfInBounds_toArray, List.set_cons_zero, List.set_cons_succ, i64_w, i32_w]
       rfl
      refine p1_ 6 (some 16) (tf 7 27) HT_.out ?_
      refine p1_ 7 (some 17) (tf 8 26) HT_.out ?_
      refine p1_ 8 (some 18) (tf 9 25) HT_.out ?_
      refine p1_ 9 (some 19) (tf 10 24) HT_.out ?_
      refine p1_ 10 (some 20) (tf 11 23) HT_.out ?_
      refine p1_ 11 (some 21) (tf 12 22) HT_.out ?_
      refine take_ (i := 12) (N := some 22) (v := ?_) (a' := ?_) (tf 13 21) rfl rfl (take_ofW HT_.out HW_.out (by kernel_rfl)) (fun _ _ _ h => h) (Or.inl ⟨by rfl, ?_⟩) hHeld ?_ ?_
      rotate_left
      ·rintro w' ⟨s0, s1, s2, s3⟩
       go_simp
       with_reducible rfl
      rotate_left
      ·simp only [Act.put, List.setIfInBounds_toArray, List.set_cons_zero, List.set_cons_succ, i64_w, i32_w]
       rfl
      refine one_ (i := 13) (N := some 23) (tf 14 20) rfl rfl (one_of HT_.out (by kernel_rfl)) (by decide) (fun K hK => ?_)
      refine goes_ Try.func121 (by kernel_rfl) rfl #[.int .i64 ((rd_T92 l0 x3_1).f1)] (by rfl) rfl rfl z0_ ?_
      with_reducible refine (spec_l1Value.calls ((rd_T92 l0 x3_1).f1) true _ A6.out).mono ?_
      rintro e w' ⟨rfl, ⟨nd, rfl⟩⟩
      refine ⟨_, rfl, ?_⟩
      refine hK.out _ _ ⟨((HB.out.cell (World.block_lt_of_cell? w _ hw197_0)).trans hw197_0), ((HB.out.cell (World.block_lt_of_cell? w _ hw197_1)).trans hw197_1), ((HB.out.cell (World.block_lt_of_cell? w _ hw199_0)).trans hw199_0), ((HB.out.cell (World.block_lt_of_cell? w _ hw199_1)).trans hw199_1)⟩ (fun hHeld => ?_)
      clear hK K
      refine norm_ (a' := ?_) ?_ ?_
      rotate_left
      ·show Act.put _ (some 23) _ = _
       simp only [Act.put, List.setIfInBounds_toArray, List.set_cons_zero, List.set_cons_succ, i64_w, i32_w]
       rfl
      refine p1_ 14 (some 24) (tf 15 19) HT_.out ?_
      refine p1_ 15 (some 25) (tf 16 18) HT_.out ?_
      refine p1_ 16 (some 26) (tf 17 17) HT_.out ?_
      refine p1_ 17 (some 27) (tf 18 16) HT_.out ?_
      refine p1_ 18 (some 28) (tf 19 15) HT_.out ?_
      refine p1_ 19 (some 29) (tf 20 14) HT_.out ?_
      refine p2_ 20 (some 30) (tf 21 13) HT_.out ?_
      refine p2_ 21 (some 31) (tf 22 12) HT_.out ?_
      refine p2_ 22 (some 32) (tf 23 11) HT_.out ?_
      refine p2_ 23 (some 33) (tf 24 10) HT_.out ?_
      refine p2_ 24 (some 34) (tf 25 9) HT_.out ?_
      refine p2_ 25 (some 35) (tf 26 8) HT_.out ?_
      refine p2_ 26 (some 36) (tf 27 7) HT_.out ?_
      refine p2_ 27 (some 37) (tf 28 6) HT_.out ?_
      refine p2_ 28 (some 38) (tf 29 5) HT_.out ?_
      refine p2_ 29 (some 39) (tf 30 4) HT_.out ?_
      refine p2_ 30 (some 40) (tf 31 3) HT_.out ?_
      refine p2_ 31 (some 41) (tf 32 2) HT_.out ?_
      refine p1_ 32 (some 42) (tf 33 1) HT_.out ?_
      refine p1_ 33 (some 43) (tf 34 0) HT_.out ?_
      refine done_ (done_of HT_.out (by kernel_rfl)) ?_
      try go_wp2
      go_roundg k1
      case measure => have := HK1.out; omega
      case rel => exact ⟨(wrap64 (x3_1 + 1)), z4_, H', ⟨z25_⟩, ⟨cb_⟩⟩
    ·obtain rfl := si_ H
     try go_wp2
     replace HB := q_ (below_drew1 HB.out)
     have p197 : 0 ≤ (x3_1 : Int) := of_decide_eq_true z1_
     have q197 : x3_1 < (l0.length : Int) := of_decide_eq_true z1_
     obtain ⟨ad197, e197, hx197_0, hx197_1⟩ := at_T92 HR0.out x3_1 p197 q197
     have hw197_1 := hx197_1
     have hw197_0 := hx197_0
     cases e197
     replace hx197_0 := up_ HB hx197_0
     replace hx197_1 := up_ HB hx197_1
     replace p197 := eq_true p197
     replace q197 := eq_true q197
     have p199 : 0 ≤ (x3_1 : Int) := of_decide_eq_true z1_
     have q199 : x3_1 < (l0.length : Int) := of_decide_eq_true z1_
     obtain ⟨ad199, e199, hx199_0, hx199_1⟩ := at_T92 HR0.out x3_1 p199 q199
     have hw199_1 := hx199_1
     have hw199_0 := hx199_0
     obtain rfl : ad197 = ad199 := (by injection e199)
     replace hx199_0 := up_ HB hx199_0
     replace hx199_1 := up_ HB hx199_1
     replace p199 := eq_true p199
     replace q199 := eq_true q199
     refine start_ (n := 34) (S := fun w' => w'.cell? (ad197.add ((x3_1).toNat * 2)) = some (.int .i64 ((rd_T92 l0 x3_1).f0)) ∧ w'.cell? ⟨(ad197.add ((x3_1).toNat * 2)).block, (ad197.add ((x3_1).toNat * 2)).off + 1, none⟩ = some (.int .i64 ((rd_T92 l0 x3_1).f1)) ∧ w'.cell? (ad197.add ((x3_1).toNat * 2)) = some (.int .i64 ((rd_T92 l0 x3_1).f0)) ∧ w'.cell? ⟨(ad197.add ((x3_1).toNat * 2)).block, (ad197.add ((x3_1).toNat * 2)).off + 1, none⟩ = some (.int .i64 ((rd_T92 l0 x3_1).f1))) (ds := []) (tf 0 34) (by kernel_rfl) rfl rfl ⟨((HB.out.cell (World.block_lt_of_cell? w _ hw197_0)).trans hw197_0), ((HB.out.cell (World.block_lt_of_cell? w _ hw197_1)).trans hw197_1), ((HB.out.cell (World.block_lt_of_cell? w _ hw199_0)).trans hw199_0), ((HB.out.cell (World.block_lt_of_cell? w _ hw199_1)).trans hw199_1)⟩ (fun hHeld => ?_); refine with_tabW spec_MapOk.tab4 spec_MapOk.bits4 (fun HT_ HW_ => ?_)
     generalize wr.drew = w16 at HB hx197_0 hx197_1 hx199_0 hx199_1 hHeld ⊢
     refine p1_ 0 (some 10) (tf 1 33) HT_.out ?_
     refine p1_ 1 (some 11) (tf 2 32) HT_.out ?_
     refine p1_ 2 (some 12) (tf 3 31) HT_.out ?_
     refine p1_ 3 (some 13) (tf 4 30) HT_.out ?_
     refine take_ (i := 4) (N := some 14) (v := ?_) (a' := ?_) (tf 5 29) rfl rfl (take_ofW HT_.out HW_.out (by kernel_rfl)) (fun _ _ _ h => h) (Or.inl ⟨by rfl, ?_⟩) hHeld ?_ ?_
     rotate_left
     ·rintro w' ⟨s0, s1, s2, s3⟩
      go_simp
      with_reducible rfl
     rotate_left
     ·simp only [Act.put, List.setIfInBounds_toArray, List.set_cons_zero, List.set_cons_succ, i64_w, i32_w]
      rfl
     refine one_ (i := 5) (N := some 15) (tf 6 28) rfl rfl (one_of HT_.out (by kernel_rfl)) (by decide) (fun K hK => ?_)
     refine goes_ Try.func97 (by kernel_rfl) rfl #[.int .i64 ((rd_T92 l0 x3_1).f0), .int .i64 0, .int .i64 999] (by rfl) rfl rfl z0_ ?_
     with_reducible refine (spec_l1In.calls ((rd_T92 l0 x3_1).f0) 0 999 true _ A4.out).mono ?_
     rintro e w' ⟨rfl, ⟨nd, rfl⟩⟩
     refine ⟨_, rfl, ?_⟩
     refine hK.out _ _ ⟨((HB.out.cell (World.block_lt_of_cell? w _ hw197_0)).trans hw197_0), ((HB.out.cell (World.block_lt_of_cell? w _ hw197_1)).trans hw197_1), ((HB.out.cell (World.block_lt_of_cell? w _ hw199_0)).trans hw199_0), ((HB.out.cell (World.block_lt_of_cell? w _ hw199_1)).trans hw199_1)⟩ (fun hHeld => ?_)
     clear hK K
     refine norm_ (a' := ?_) ?_ ?_
     rotate_left
     ·show Act.put _ (some 15) _ = _
      simp only [Act.put, List.setIfInBounds_toArray, List.set_cons_zero, List.set_cons_succ, i64_w, i32_w]
      rfl
     refine p1_ 6 (some 16) (tf 7 27) HT_.out ?_
     refine p1_ 7 (some 17) (tf 8 26) HT_.out ?_
     refine p1_ 8 (some 18) (tf 9 25) HT_.out ?_
     refine p1_ 9 (some 19) (tf 10 24) HT_.out ?_
     refine p1_ 10 (some 20) (tf 11 23) HT_.out ?_
     refine p1_ 11 (some 21) (tf 12 22) HT_.out ?_
     refine take_ (i := 12) (N := some 22) (v := ?_) (a' := ?_) (tf 13 21) rfl rfl (take_ofW HT_.out HW_.out (by kernel_rfl)) (fun _ _ _ h => h) (Or.inl ⟨by rfl, ?_⟩) hHeld ?_ ?_
     rotate_left
     ·rintro w' ⟨s0, s1, s2, s3⟩
      go_simp
      with_reducible rfl
     rotate_left
     ·simp only [Act.put, List.setIfInBounds_toArray, List.set_cons_zero, List.set_cons_succ, i64_w, i32_w]
      rfl
     refine one_ (i := 13) (N := some 23) (tf 14 20) rfl rfl (one_of HT_.out (by kernel_rfl)) (by decide) (fun K hK => ?_)
     refine goes_ Try.func121 (by kernel_rfl) rfl #[.int .i64 ((rd_T92 l0 x3_1).f1)] (by rfl) rfl rfl z0_ ?_
     with_reducible refine (spec_l1Value.calls ((rd_T92 l0 x3_1).f1) false _ A6.out).mono ?_
     rintro e w' ⟨rfl, ⟨nd, rfl⟩⟩
     refine ⟨_, rfl, ?_⟩
     refine hK.out _ _ ⟨((HB.out.cell (World.block_lt_of_cell? w _ hw197_0)).trans hw197_0), ((HB.out.cell (World.block_lt_of_cell? w _ hw197_1)).trans hw197_1), ((HB.out.cell (World.block_lt_of_cell? w _ hw199_0)).trans hw199_0), ((HB.out.cell (World.block_lt_of_cell? w _ hw199_1)).trans hw199_1)⟩ (fun hHeld => ?_)
     clear hK K
     refine norm_ (a' := ?_) ?_ ?_
     rotate_left
     ·show Act.put _ (some 23) _ = _
      simp only [Act.put, List.setIfInBounds_toArray, List.set_cons_zero, List.set_cons_succ, i64_w, i32_w]
      rfl
     refine p1_ 14 (some 24) (tf 15 19) HT_.out ?_
     refine p1_ 15 (some 25) (tf 16 18) HT_.out ?_
     refine p1_ 16 (some 26) (tf 17 17) HT_.out ?_
     refine p2_ 17 (some 27) (tf 18 16) HT_.out ?_
     refine p2_ 18 (some 28) (tf 19 15) HT_.out ?_
     refine p2_ 19 (some 29) (tf 20 14) HT_.out ?_
     refine p2_ 20 (some 30) (tf 21 13) HT_.out ?_
     refine p2_ 21 (some 31) (tf 22 12) HT_.out ?_
     refine p2_ 22 (some 32) (tf 23 11) HT_.out ?_
     refine p2_ 23 (some 33) (tf 24 10) HT_.out ?_
     refine p2_ 24 (some 34) (tf 25 9) HT_.out ?_
     refine p2_ 25 (some 35) (tf 26 8) HT_.out ?_
     refine p2_ 26 (some 36) (tf 27 7) HT_.out ?_
     refine p2_ 27 (some 37) (tf 28 6) HT_.out ?_
     refine p2_ 28 (some 38) (tf 29 5) HT_.out ?_
     refine p2_ 29 (some 39) (tf 30 4) HT_.out ?_
     refine p2_ 30 (some 40) (tf 31 3) HT_.out ?_
     refine p2_ 31 (some 41) (tf 32 2) HT_.out ?_
     refine p2_ 32 (some 42) (tf 33 1) HT_.out ?_
     refine p1_ 33 (some 43) (tf 34 0) HT_.out ?_
     refine done_ (done_of HT_.out (by kernel_rfl)) ?_
     try go_wp2
     go_ret
     exact ⟨z2_, cb_⟩
   ·obtain rfl := si_ H
    try go_wp2
    replace HB := q_ (below_drew1 HB.out)
    have p197 : 0 ≤ (x3_1 : Int) := of_decide_eq_true z1_
    have q197 : x3_1 < (l0.length : Int) := of_decide_eq_true z1_
    obtain ⟨ad197, e197, hx197_0, hx197_1⟩ := at_T92 HR0.out x3_1 p197 q197
    have hw197_1 := hx197_1
    have hw197_0 := hx197_0
    cases e197
    replace hx197_0 := up_ HB hx197_0
    replace hx197_1 := up_ HB hx197_1
    replace p197 := eq_true p197
    replace q197 := eq_true q197
    refine start_ (n := 34) (S := fun w' => w'.cell? (ad197.add ((x3_1).toNat * 2)) = some (.int .i64 ((rd_T92 l0 x3_1).f0)) ∧ w'.cell? ⟨(ad197.add ((x3_1).toNat * 2)).block, (ad197.add ((x3_1).toNat * 2)).off + 1, none⟩ = some (.int .i64 ((rd_T92 l0 x3_1).f1))) (ds := []) (tf 0 34) (by kernel_rfl) rfl rfl ⟨((HB.out.cell (World.block_lt_of_cell? w _ hw197_0)).trans hw197_0), ((HB.out.cell (World.block_lt_of_cell? w _ hw197_1)).trans hw197_1)⟩ (fun hHeld => ?_); refine with_tabW spec_MapOk.tab4 spec_MapOk.bits4 (fun HT_ HW_ => ?_)
    generalize wr.drew = w17 at HB hx197_0 hx197_1 hHeld ⊢
    refine p1_ 0 (some 10) (tf 1 33) HT_.out ?_
    refine p1_ 1 (some 11) (tf 2 32) HT_.out ?_
    refine p1_ 2 (some 12) (tf 3 31) HT_.out ?_
    refine p1_ 3 (some 13) (tf 4 30) HT_.out ?_
    refine take_ (i := 4) (N := some 14) (v := ?_) (a' := ?_) (tf 5 29) rfl rfl (take_ofW HT_.out HW_.out (by kernel_rfl)) (fun _ _ _ h => h) (Or.inl ⟨by rfl, ?_⟩) hHeld ?_ ?_
    rotate_left
    ·rintro w' ⟨s0, s1⟩
     go_simp
     with_reducible rfl
    rotate_left
    ·simp only [Act.put, List.setIfInBounds_toArray, List.set_cons_zero, List.set_cons_succ, i64_w, i32_w]
     rfl
    refine one_ (i := 5) (N := some 15) (tf 6 28) rfl rfl (one_of HT_.out (by kernel_rfl)) (by decide) (fun K hK => ?_)
    refine goes_ Try.func97 (by kernel_rfl) rfl #[.int .i64 ((rd_T92 l0 x3_1).f0), .int .i64 0, .int .i64 999] (by rfl) rfl rfl z0_ ?_
    with_reducible refine (spec_l1In.calls ((rd_T92 l0 x3_1).f0) 0 999 false _ A4.out).mono ?_
    rintro e w' ⟨rfl, ⟨nd, rfl⟩⟩
    refine ⟨_, rfl, ?_⟩
    refine hK.out _ _ ⟨((HB.out.cell (World.block_lt_of_cell? w _ hw197_0)).trans hw197_0), ((HB.out.cell (World.block_lt_of_cell? w _ hw197_1)).trans hw197_1)⟩ (fun hHeld => ?_)
    clear hK K
    refine norm_ (a' := ?_) ?_ ?_
    rotate_left
    ·show Act.put _ (some 15) _ = _
     simp only [Act.put, List.setIfInBounds_toArray, List.set_cons_zero, List.set_cons_succ, i64_w, i32_w]
     rfl
    refine p1_ 6 (some 16) (tf 7 27) HT_.out ?_
    refine p1_ 7 (some 17) (tf 8 26) HT_.out ?_
    refine p2_ 8 (some 18) (tf 9 25) HT_.out ?_
    refine p2_ 9 (some 19) (tf 10 24) HT_.out ?_
    refine p2_ 10 (some 20) (tf 11 23) HT_.out ?_
    refine p2_ 11 (some 21) (tf 12 22) HT_.out ?_
    refine p2_ 12 (some 22) (tf 13 21) HT_.out ?_
    refine p2_ 13 (some 23) (tf 14 20) HT_.out ?_
    refine p2_ 14 (some 24) (tf 15 19) HT_.out ?_
    refine p1_ 15 (some 25) (tf 16 18) HT_.out ?_
    refine p1_ 16 (some 26) (tf 17 17) HT_.out ?_
    refine p2_ 17 (some 27) (tf 18 16) HT_.out ?_
    refine p2_ 18 (some 28) (tf 19 15) HT_.out ?_
    refine p2_ 19 (some 29) (tf 20 14) HT_.out ?_
    refine p2_ 20 (some 30) (tf 21 13) HT_.out ?_
    refine p2_ 21 (some 31) (tf 22 12) HT_.out ?_
    refine p2_ 22 (some 32) (tf 23 11) HT_.out ?_
    refine p2_ 23 (some 33) (tf 24 10) HT_.out ?_
    refine p2_ 24 (some 34) (tf 25 9) HT_.out ?_
    refine p2_ 25 (some 35) (tf 26 8) HT_.out ?_
    refine p2_ 26 (some 36) (tf 27 7) HT_.out ?_
    refine p2_ 27 (some 37) (tf 28 6) HT_.out ?_
    refine p2_ 28 (some 38) (tf 29 5) HT_.out ?_
    refine p2_ 29 (some 39) (tf 30 4) HT_.out ?_
    refine p2_ 30 (some 40) (tf 31 3) HT_.out ?_
    refine p2_ 31 (some 41) (tf 32 2) HT_.out ?_
    refine p2_ 32 (some 42) (tf 33 1) HT_.out ?_
    refine p1_ 33 (some 43) (tf 34 0) HT_.out ?_
    refine done_ (done_of HT_.out (by kernel_rfl)) ?_
    try go_wp2
    go_ret
    exact ⟨z2_, cb_⟩
  ·obtain rfl := si_ H
   go_wp2
   go_ret
   exact ⟨z2_, cb_⟩

end Go.Proofs.Ytfnndcpaldkkoaa.PFnExactTreeRange
