-- Written by a program of this session, which goes by the kit's print. Not trusted: Lean checks it.
import Derived.Test.YtfnndcpaldkkoaaPFnExactTreeRangex0
import Derived.Test.YtfnndcpaldkkoaaPFnExactTreeRangex2
import Derived.Test.YtfnndcpaldkkoaaPFnExactTreeRangex3
namespace Go.Proofs.Ytfnndcpaldkkoaa.PFnExactTreeRange
open Go.RowKit Go.Proofs.YtfnndcpaldkkoaaW.PrintWords Go.Proofs.YtfnndcpaldkkoaaW.PrintLast Go.Proofs.YtfnndcpaldkkoaaW.PrintMore
attribute [local go_sem] Instr.field asAgg max2_int min2_int max_two min_two max_three min_three max_four min_four   -- for this text's walks alone
set_option linter.unusedVariables false
set_option linter.unusedSimpArgs false

mutual
def laws_eqTreeS.l0 : Nat → List (S34) → List (S34) → Int → Option (Bool)
 | 0, _, _, _ => none
 | k + 1, x0, x1, x5 => if x5 < (x0.length : Int) then (if 0 ≤ x5 then (if x5 < (x1.length : Int) then ((laws_eqTree.f k ((rd_T34 x0 x5).f0) ((rd_T34 x0 x5).f1) ((rd_T34 x0 x5).f2) ((rd_T34 x0 x5).f3) ((rd_T34 x0 x5).f4) ((rd_T34 x1 x5).f0) ((rd_T34 x1 x5).f1) ((rd_T34 x1 x5).f2) ((rd_T34 x1 x5).f3) ((rd_T34 x1 x5).f4)).bind fun t181 => (if t181 = true then (laws_eqTreeS.l0 k x0 x1 (wrap64 (x5 + 1))) else (some false))) else (none)) else (none)) else (some true)
def laws_eqTreeS.f : Nat → List (S34) → List (S34) → Option (Bool)
 | 0, _, _ => none
 | k + 1, l0, l1 => if (l0.length : Int) = (l1.length : Int) then (laws_eqTreeS.l0 k l0 l1 0) else (some false)
def laws_eqTree.f : Nat → Bool → List (S92) → List Int → List (S34) → List (S72) → Bool → List (S92) → List Int → List (S34) → List (S72) → Option (Bool)
 | 0, _, _, _, _, _, _, _, _, _, _ => none
 | k + 1, a0_0, l0_1, l0_2, l0_3, l0_4, a1_0, l1_1, l1_2, l1_3, l1_4 => if (a0_0 != a1_0) = true then (some false) else ((laws_eqPairS.f k l0_1 l1_1).bind fun t184 => (if t184 = true then ((laws_eqIntS.f k l0_2 l1_2).bind fun t185 => (if t185 = true then ((laws_eqTreeS.f k l0_3 l1_3).bind fun t186 => (if t186 = true then ((laws_eqMsgS.f k l0_4 l1_4).bind fun t187 => (if t187 = true then (some true) else (some false))) else (some false))) else (some false))) else (some false)))
end
theorem laws_eqTreeS.all_mono : ∀ k, (∀ y0 y1, LeO (laws_eqTreeS.f k y0 y1) (laws_eqTreeS.f (k + 1) y0 y1)) ∧ (∀ y0 y1 y2, LeO (laws_eqTreeS.l0 k y0 y1 y2) (laws_eqTreeS.l0 (k + 1) y0 y1 y2)) ∧ (∀ y0 y1 y2 y3 y4 y5 y6 y7 y8 y9, LeO (laws_eqTree.f k y0 y1 y2 y3 y4 y5 y6 y7 y8 y9) (laws_eqTree.f (k + 1) y0 y1 y2 y3 y4 y5 y6 y7 y8 y9))
 | 0 => ⟨fun _ _ r h => by simp [laws_eqTreeS.f] at h, fun _ _ _ r h => by simp [laws_eqTreeS.l0] at h, fun _ _ _ _ _ _ _ _ _ _ r h => by simp [laws_eqTree.f] at h⟩
 | k + 1 => by
  obtain ⟨ih0, ih1, ih2⟩ := laws_eqTreeS.all_mono k
  refine ⟨?_, ?_, ?_⟩
  ·intro y0 y1
   unfold laws_eqTreeS.f
   have m0 := @laws_eqIntS.mono
   have m1 := @laws_eqMsgS.mono
   have m2 := @laws_eqPairS.mono
   exact zm_
  ·intro y0 y1 y2
   unfold laws_eqTreeS.l0
   have m0 := @laws_eqIntS.mono
   have m1 := @laws_eqMsgS.mono
   have m2 := @laws_eqPairS.mono
   exact zm_
  ·intro y0 y1 y2 y3 y4 y5 y6 y7 y8 y9
   unfold laws_eqTree.f
   have m0 := @laws_eqIntS.mono
   have m1 := @laws_eqMsgS.mono
   have m2 := @laws_eqPairS.mono
   exact zm_
theorem laws_eqTreeS.mono : ∀ a0 a1 k, LeO (laws_eqTreeS.f k a0 a1) (laws_eqTreeS.f (k + 1) a0 a1) := fun a0 a1 k => (laws_eqTreeS.all_mono k).1 a0 a1
theorem laws_eqTreeS.mono_l0 : ∀ k, ∀ y0 y1 y2, LeO (laws_eqTreeS.l0 k y0 y1 y2) (laws_eqTreeS.l0 (k + 1) y0 y1 y2) := fun k => (laws_eqTreeS.all_mono k).2.1
theorem laws_eqTree.mono : ∀ a0 a1 a2 a3 a4 a5 a6 a7 a8 a9 k, LeO (laws_eqTree.f k a0 a1 a2 a3 a4 a5 a6 a7 a8 a9) (laws_eqTree.f (k + 1) a0 a1 a2 a3 a4 a5 a6 a7 a8 a9) := fun a0 a1 a2 a3 a4 a5 a6 a7 a8 a9 k => (laws_eqTreeS.all_mono k).2.2 a0 a1 a2 a3 a4 a5 a6 a7 a8 a9
/-! ### laws_eqTreeS: function 66 -/
def laws_eqTreeS.T6 : Bool × List (List Nat × List Nat) := (true, [([], []), ([], []), ([0, 1], [0, 1]), ([2], [2]), ([], []), ([], []), ([4, 5], [4, 5]), ([6], [6]), ([3, 7], [3, 7]), ([8], [8])])
def laws_eqTreeS.B6 : List Nat := [0, 0, 3, 7, 0, 0, 48, 112, 255, 511]
theorem laws_eqTreeS.tab6 : rtab .any (opsOf Try.f66 6) = laws_eqTreeS.T6 := by kernel_rfl
theorem laws_eqTreeS.bits6 : waitsOk laws_eqTreeS.T6.2 laws_eqTreeS.B6 = true := by kernel_rfl
set_option maxHeartbeats 8000000 in
set_option maxRecDepth 100000 in
theorem laws_eqTreeS.step (k : Nat) (ih : ∀ m_, m_ < k → ∀ (A0 : Option Addr) (c0 : Nat) (l0 : List (S34)) (A1 : Option Addr) (c1 : Nat) (l1 : List (S34)) (r : Bool) (w : World) (hr0 : Kd.C k34 w A0 l0.length l0) (hc0 : l0.length ≤ c0) (hr1 : Kd.C k34 w A1 l1.length l1) (hc1 : l1.length ≤ c1) (h : laws_eqTreeS.f m_ l0 l1 = some r),
  Calls Try.prog 66 #[.slice A0 l0.length c0, .slice A1 l1.length c1] w fun e w' => e = .returned (.bool r) ∧ Below w.heap.size w w') (ih_laws_eqTree : ∀ m_, m_ < k → ∀ (a0_0 : Bool) (A0_1 : Option Addr) (c0_1 : Nat) (l0_1 : List (S92)) (A0_2 : Option Addr) (c0_2 : Nat) (l0_2 : List Int) (A0_3 : Option Addr) (c0_3 : Nat) (l0_3 : List (S34)) (A0_4 : Option Addr) (c0_4 : Nat) (l0_4 : List (S72)) (a1_0 : Bool) (A1_1 : Option Addr) (c1_1 : Nat) (l1_1 : List (S92)) (A1_2 : Option Addr) (c1_2 : Nat) (l1_2 : List Int) (A1_3 : Option Addr) (c1_3 : Nat) (l1_3 : List (S34)) (A1_4 : Option Addr) (c1_4 : Nat) (l1_4 : List (S72)) (r : Bool) (w : World) (hr0_1 : Kd.C k92 w A0_1 l0_1.length l0_1) (hc0_1 : l0_1.length ≤ c0_1) (hr0_2 : Kd.C (Kd.int .i64) w A0_2 l0_2.length l0_2) (hc0_2 : l0_2.length ≤ c0_2) (hr0_3 : Kd.C k34 w A0_3 l0_3.length l0_3) (hc0_3 : l0_3.length ≤ c0_3) (hr0_4 : Kd.C k72 w A0_4 l0_4.length l0_4) (hc0_4 : l0_4.length ≤ c0_4) (hr1_1 : Kd.C k92 w A1_1 l1_1.length l1_1) (hc1_1 : l1_1.length ≤ c1_1) (hr1_2 : Kd.C (Kd.int .i64) w A1_2 l1_2.length l1_2) (hc1_2 : l1_2.length ≤ c1_2) (hr1_3 : Kd.C k34 w A1_3 l1_3.length l1_3) (hc1_3 : l1_3.length ≤ c1_3) (hr1_4 : Kd.C k72 w A1_4 l1_4.length l1_4) (hc1_4 : l1_4.length ≤ c1_4) (h : laws_eqTree.f m_ a0_0 l0_1 l0_2 l0_3 l0_4 a1_0 l1_1 l1_2 l1_3 l1_4 = some r),
  Calls Try.prog 19 #[.agg #[.bool a0_0, .slice A0_1 l0_1.length c0_1, .slice A0_2 l0_2.length c0_2, .slice A0_3 l0_3.length c0_3, .slice A0_4 l0_4.length c0_4], .agg #[.bool a1_0, .slice A1_1 l1_1.length c1_1, .slice A1_2 l1_2.length c1_2, .slice A1_3 l1_3.length c1_3, .slice A1_4 l1_4.length c1_4]] w fun e w' => e = .returned (.bool r) ∧ Below w.heap.size w w') : ∀ (A0 : Option Addr) (c0 : Nat) (l0 : List (S34)) (A1 : Option Addr) (c1 : Nat) (l1 : List (S34)) (r : Bool) (w : World) (hr0 : Kd.C k34 w A0 l0.length l0) (hc0 : l0.length ≤ c0) (hr1 : Kd.C k34 w A1 l1.length l1) (hc1 : l1.length ≤ c1) (h : laws_eqTreeS.f k l0 l1 = some r),
  Calls Try.prog 66 #[.slice A0 l0.length c0, .slice A1 l1.length c1] w fun e w' => e = .returned (.bool r) ∧ Below w.heap.size w w' := by
 intro A0 c0 l0 A1 c1 l1 r w hr0 hc0 hr1 hc1 h
 cases k with
 | zero => exact absurd h (by simp [laws_eqTreeS.f])
 | succ k =>
 simp only [laws_eqTreeS.f] at h
 have hu34 := Try.underlying34
 have HR0 := q_ hr0
 have HC0 := q_ hc0
 clear hr0 hc0
 have HR1 := q_ hr1
 have HC1 := q_ hc1
 clear hr1 hc1
 have HB := q_ (Below.refl w.heap.size w)
 have H := h; clear h
 by_cases c3 : (l0.length : Int) = (l1.length : Int)
 ·rw [if_pos c3] at H
  have c3b0 : ((l0.length : Int) == (l1.length : Int)) = true := beq_iff_eq.mpr c3
  have c3b1 : ((l0.length : Int) != (l1.length : Int)) = false := bne_eq_false_iff_eq.mpr c3
  have c3b2 : (l0.length == l1.length) = true := z56_
  clear c3
  have H' := q_ H
  clear H
  go_enter Try.func66, Try.ntmps66
  go_wp2
  go_loopg [5] k (fun kq v5 w' => ∃ (x5_1 : Int), v5 = .int .i64 x5_1 ∧ Aside0 (laws_eqTreeS.l0 kq l0 l1 x5_1 = some r) ∧ Aside0 (kq ≤ k) ∧ Aside0 (Below w.heap.size w w'))
  case atStart => exact ⟨(0), z4_, H', ⟨Nat.le_refl _⟩, ⟨cb_⟩⟩
  case round =>
   clear H'
   try clear c1
   try clear p2
   try clear c3
   try clear c3b0
   try clear c3b1
   try clear c3b2
   obtain ⟨x5_1, rfl, HA, HK1, HB⟩ := hrel
   obtain ⟨k1, rfl, H⟩ := rn_ (k := gk) HA (by rintro rfl; simp only [laws_eqTreeS.l0])
   clear HA
   simp only [laws_eqTreeS.l0] at H
   replace H := kd_ H; rcases H with ⟨c4b0, H⟩ | ⟨c4b0, H⟩
   ·replace H := kdn_ H; obtain ⟨c5b0, H⟩ := H
    replace H := kdn_ H; obtain ⟨c6b0, H⟩ := H
    replace H := bi_ H; obtain ⟨t181, A7, H⟩ := H
    have HC8 := q_ H
    clear H
    try go_wp2
    replace HB := q_ (below_drew1 HB.out)
    have p179 : 0 ≤ (x5_1 : Int) := of_decide_eq_true z1_
    have q179 : x5_1 < (l0.length : Int) := of_decide_eq_true z1_
    obtain ⟨ad179, A179_1, c179_1, A179_2, c179_2, A179_3, c179_3, A179_4, c179_4, e179, hx179_0, hx179_1, hx179_2, hx179_3, hx179_4, hl179_1, hi179_1, hl179_2, hi179_2, hl179_3, hi179_3, hl179_4, hi179_4⟩ := at_T34 HR0.out x5_1 p179 q179
    have hw179_4 := hx179_4
    have hw179_3 := hx179_3
    have hw179_2 := hx179_2
    have hw179_1 := hx179_1
    have hw179_0 := hx179_0
    cases e179
    replace hx179_0 := up_ HB hx179_0
    replace hx179_1 := up_ HB hx179_1
    replace hx179_2 := up_ HB hx179_2
    replace hx179_3 := up_ HB hx179_3
    replace hx179_4 := up_ HB hx179_4
    have HR179_1 := q_ hi179_1
    have HC179_1 := q_ hl179_1
    clear hi179_1 hl179_1
    have HR179_2 := q_ hi179_2
    have HC179_2 := q_ hl179_2
    clear hi179_2 hl179_2
    have HR179_3 := q_ hi179_3
    have HC179_3 := q_ hl179_3
    clear hi179_3 hl179_3
    have HR179_4 := q_ hi179_4
    have HC179_4 := q_ hl179_4
    clear hi179_4 hl179_4
    replace p179 := eq_true p179
    replace q179 := eq_true q179
    have p180 : 0 ≤ (x5_1 : Int) := of_decide_eq_true z1_
    have q180 : x5_1 < (l1.length : Int) := of_decide_eq_true z1_
    obtain ⟨ad180, A180_1, c180_1, A180_2, c180_2, A180_3, c180_3, A180_4, c180_4, e180, hx180_0, hx180_1, hx180_2, hx180_3, hx180_4, hl180_1, hi180_1, hl180_2, hi180_2, hl180_3, hi180_3, hl180_4, hi180_4⟩ := at_T34 HR1.out x5_1 p180 q180
    have hw180_4 := hx180_4
    have hw180_3 := hx180_3
    have hw180_2 := hx180_2
    have hw180_1 := hx180_1
    have hw180_0 := hx180_0
    cases e180
    replace hx180_0 := up_ HB hx180_0
    replace hx180_1 := up_ HB hx180_1
    replace hx180_2 := up_ HB hx180_2
    replace hx180_3 := up_ HB hx180_3
    replace hx180_4 := up_ HB hx180_4
    have HR180_1 := q_ hi180_1
    have HC180_1 := q_ hl180_1
    clear hi180_1 hl180_1
    have HR180_2 := q_ hi180_2
    have HC180_2 := q_ hl180_2
    clear hi180_2 hl180_2
    have HR180_3 := q_ hi180_3
    have HC180_3 := q_ hl180_3
    clear hi180_3 hl180_3
    have HR180_4 := q_ hi180_4
    have HC180_4 := q_ hl180_4
    clear hi180_4 hl180_4
    replace p180 := eq_true p180
    replace q180 := eq_true q180
    refine start_ (n := 10) (S := fun w' => w'.cell? (ad179.add ((x5_1).toNat * 5)) = some (.bool ((rd_T34 l0 x5_1).f0)) ∧ w'.cell? ⟨(ad179.add ((x5_1).toNat * 5)).block, (ad179.add ((x5_1).toNat * 5)).off + 1, none⟩ = some (.slice A179_1 ((rd_T34 l0 x5_1).f1).length c179_1) ∧ w'.cell? ⟨(ad179.add ((x5_1).toNat * 5)).block, (ad179.add ((x5_1).toNat * 5)).off + 2, none⟩ = some (.slice A179_2 ((rd_T34 l0 x5_1).f2).length c179_2) ∧ w'.cell? ⟨(ad179.add ((x5_1).toNat * 5)).block, (ad179.add ((x5_1).toNat * 5)).off + 3, none⟩ = some (.slice A179_3 ((rd_T34 l0 x5_1).f3).length c179_3) ∧ w'.cell? ⟨(ad179.add ((x5_1).toNat * 5)).block, (ad179.add ((x5_1).toNat * 5)).off + 4, none⟩ = some (.slice A179_4 ((rd_T34 l0 x5_1).f4).length c179_4) ∧ w'.cell? (ad180.add ((x5_1).toNat * 5)) = some (.bool ((rd_T34 l1 x5_1).f0)) ∧ w'.cell? ⟨(ad180.add ((x5_1).toNat * 5)).block, (ad180.add ((x5_1).toNat * 5)).off + 1, none⟩ = some (.slice A180_1 ((rd_T34 l1 x5_1).f1).length c180_1) ∧ w'.cell? ⟨(ad180.add ((x5_1).toNat * 5)).block, (ad180.add ((x5_1).toNat * 5)).off + 2, none⟩ = some (.slice A180_2 ((rd_T34 l1 x5_1).f2).length c180_2) ∧ w'.cell? ⟨(ad180.add ((x5_1).toNat * 5)).block, (ad180.add ((x5_1).toNat * 5)).off + 3, none⟩ = some (.slice A180_3 ((rd_T34 l1 x5_1).f3).length c180_3) ∧ w'.cell? ⟨(ad180.add ((x5_1).toNat * 5)).block, (ad180.add ((x5_1).toNat * 5)).off + 4, none⟩ = some (.slice A180_4 ((rd_T34 l1 x5_1).f4).length c180_4)) (ds := []) (tf 0 10) (by kernel_rfl) rfl rfl ⟨((HB.out.cell (World.block_lt_of_cell? w _ hw179_0)).trans hw179_0), ((HB.out.cell (World.block_lt_of_cell? w _ hw179_1)).trans hw179_1), ((HB.out.cell (World.block_lt_of_cell? w _ hw179_2)).trans hw179_2), ((HB.out.cell (World.block_lt_of_cell? w _ hw179_3)).trans hw179_3), ((HB.out.cell (World.block_lt_of_cell? w _ hw179_4)).trans hw179_4), ((HB.out.cell (World.block_lt_of_cell? w _ hw180_0)).trans hw180_0), ((HB.out.cell (World.block_lt_of_cell? w _ hw180_1)).trans hw180_1), ((HB.out.cell (World.block_lt_of_cell? w _ hw180_2)).trans hw180_2), ((HB.out.cell (World.block_lt_of_cell? w _ hw180_3)).trans hw180_3), ((HB.out.cell (World.block_lt_of_cell? w _ hw180_4)).trans hw180_4)⟩ (fun hHeld => ?_); refine with_tabW laws_eqTreeS.tab6 laws_eqTreeS.bits6 (fun HT_ HW_ => ?_)
    generalize wr.drew = w9 at HB HR179_1 HR179_2 HR179_3 HR179_4 HR180_1 HR180_2 HR180_3 HR180_4 hx179_0 hx179_1 hx179_2 hx179_3 hx179_4 hx180_0 hx180_1 hx180_2 hx180_3 hx180_4 hHeld ⊢
    refine p1_ 0 (some 17) (tf 1 9) HT_.out ?_
    refine p1_ 1 (some 18) (tf 2 8) HT_.out ?_
    refine p1_ 2 (some 19) (tf 3 7) HT_.out ?_
    refine p1_ 4 (some 21) #[true, true, true, false, true, false, false, false, false, false] HT_.out ?_
    refine p1_ 5 (some 22) #[true, true, true, false, true, true, false, false, false, false] HT_.out ?_
    refine p1_ 6 (some 23) #[true, true, true, false, true, true, true, false, false, false] HT_.out ?_
    refine take_ (i := 3) (N := some 20) (v := ?_) (a' := ?_) (tf 7 3) rfl rfl (take_ofW HT_.out HW_.out (by kernel_rfl)) (fun _ _ _ h => h) (Or.inl ⟨by rfl, ?_⟩) hHeld ?_ ?_
    rotate_left
    ·rintro w' ⟨s0, s1, s2, s3, s4, s5, s6, s7, s8, s9⟩
     go_simp
     with_reducible rfl
    rotate_left
    ·simp only [Act.put, List.setIfInBounds_toArray, List.set_cons_zero, List.set_cons_succ, i64_w, i32_w]
     rfl
    refine take_ (i := 7) (N := some 24) (v := ?_) (a' := ?_) (tf 8 2) rfl rfl (take_ofW HT_.out HW_.out (by kernel_rfl)) (fun _ _ _ h => h) (Or.inl ⟨by rfl, ?_⟩) hHeld ?_ ?_
    rotate_left
    ·rintro w' ⟨s0, s1, s2, s3, s4, s5, s6, s7, s8, s9⟩
     go_simp
     with_reducible rfl
    rotate_left
    ·simp only [Act.put, List.setIfInBounds_toArray, List.set_cons_zero, List.set_cons_succ, i64_w, i32_w]
     rfl
    refine one_ (i := 8) (N := some 25) (tf 9 1) rfl rfl (one_of HT_.out (by kernel_rfl)) (by decide) (fun K hK => ?_)
    refine goes_ Try.func19 (by kernel_rfl) rfl #[.agg #[.bool ((rd_T34 l0 x5_1).f0), .slice A179_1 ((rd_T34 l0 x5_1).f1).length c179_1, .slice A179_2 ((rd_T34 l0 x5_1).f2).length c179_2, .slice A179_3 ((rd_T34 l0 x5_1).f3).length c179_3, .slice A179_4 ((rd_T34 l0 x5_1).f4).length c179_4], .agg #[.bool ((rd_T34 l1 x5_1).f0), .slice A180_1 ((rd_T34 l1 x5_1).f1).length c180_1, .slice A180_2 ((rd_T34 l1 x5_1).f2).length c180_2, .slice A180_3 ((rd_T34 l1 x5_1).f3).length c180_3, .slice A180_4 ((rd_T34 l1 x5_1).f4).length c180_4]] (by rfl) rfl rfl z0_ ?_
    with_reducible refine (ih_laws_eqTree k1 z25_ ((rd_T34 l0 x5_1).f0) _ _ ((rd_T34 l0 x5_1).f1) _ _ ((rd_T34 l0 x5_1).f2) _ _ ((rd_T34 l0 x5_1).f3) _ _ ((rd_T34 l0 x5_1).f4) ((rd_T34 l1 x5_1).f0) _ _ ((rd_T34 l1 x5_1).f1) _ _ ((rd_T34 l1 x5_1).f2) _ _ ((rd_T34 l1 x5_1).f3) _ _ ((rd_T34 l1 x5_1).f4) t181 _ ?side1 ?side2 ?side3 ?side4 ?side5 ?side6 ?side7 ?side8 ?side9 ?side10 ?side11 ?side12 ?side13 ?side14 ?side15 ?side16 A7.out).mono ?_
    (case side1 => repeat (first | exact (Kd.C_below HR179_1.out HB.out) | (with_reducible refine Kd.C_alloc ?_ _) | (with_reducible refine Kd.C_drewN ?_ _) | (with_reducible refine Kd.C_drew ?_)))
    (case side2 => exact HC179_1.out)
    (case side3 => repeat (first | exact (Kd.C_below HR179_2.out HB.out) | (with_reducible refine Kd.C_alloc ?_ _) | (with_reducible refine Kd.C_drewN ?_ _) | (with_reducible refine Kd.C_drew ?_)))
    (case side4 => exact HC179_2.out)
    (case side5 => repeat (first | exact (Kd.C_below HR179_3.out HB.out) | (with_reducible refine Kd.C_alloc ?_ _) | (with_reducible refine Kd.C_drewN ?_ _) | (with_reducible refine Kd.C_drew ?_)))
    (case side6 => exact HC179_3.out)
    (case side7 => repeat (first | exact (Kd.C_below HR179_4.out HB.out) | (with_reducible refine Kd.C_alloc ?_ _) | (with_reducible refine Kd.C_drewN ?_ _) | (with_reducible refine Kd.C_drew ?_)))
    (case side8 => exact HC179_4.out)
    (case side9 => repeat (first | exact (Kd.C_below HR180_1.out HB.out) | (with_reducible refine Kd.C_alloc ?_ _) | (with_reducible refine Kd.C_drewN ?_ _) | (with_reducible refine Kd.C_drew ?_)))
    (case side10 => exact HC180_1.out)
    (case side11 => repeat (first | exact (Kd.C_below HR180_2.out HB.out) | (with_reducible refine Kd.C_alloc ?_ _) | (with_reducible refine Kd.C_drewN ?_ _) | (with_reducible refine Kd.C_drew ?_)))
    (case side12 => exact HC180_2.out)
    (case side13 => repeat (first | exact (Kd.C_below HR180_3.out HB.out) | (with_reducible refine Kd.C_alloc ?_ _) | (with_reducible refine Kd.C_drewN ?_ _) | (with_reducible refine Kd.C_drew ?_)))
    (case side14 => exact HC180_3.out)
    (case side15 => repeat (first | exact (Kd.C_below HR180_4.out HB.out) | (with_reducible refine Kd.C_alloc ?_ _) | (with_reducible refine Kd.C_drewN ?_ _) | (with_reducible refine Kd.C_drew ?_)))
    (case side16 => exact HC180_4.out)
    rintro e w10 ⟨rfl, hb⟩
    refine ⟨_, rfl, ?_⟩
    replace HB := hb_ hb
    (try clear hb)
    (try clear hb2)
    (try clear hk)
    (try clear hi)
    refine hK.out _ _ ⟨((HB.out.cell (World.block_lt_of_cell? w _ hw179_0)).trans hw179_0), ((HB.out.cell (World.block_lt_of_cell? w _ hw179_1)).trans hw179_1), ((HB.out.cell (World.block_lt_of_cell? w _ hw179_2)).trans hw179_2), ((HB.out.cell (World.block_lt_of_cell? w _ hw179_3)).trans hw179_3), ((HB.out.cell (World.block_lt_of_cell? w _ hw179_4)).trans hw179_4), ((HB.out.cell (World.block_lt_of_cell? w _ hw180_0)).trans hw180_0), ((HB.out.cell (World.block_lt_of_cell? w _ hw180_1)).trans hw180_1), ((HB.out.cell (World.block_lt_of_cell? w _ hw180_2)).trans hw180_2), ((HB.out.cell (World.block_lt_of_cell? w _ hw180_3)).trans hw180_3), ((HB.out.cell (World.block_lt_of_cell? w _ hw180_4)).trans hw180_4)⟩ (fun hHeld => ?_)
    clear hK K
    refine norm_ (a' := ?_) ?_ ?_
    rotate_left
    ·show Act.put _ (some 25) _ = _
     simp only [Act.put, List.setIfInBounds_toArray, List.set_cons_zero, List.set_cons_succ, i64_w, i32_w]
     rfl
    refine p1_ 9 (some 26) (tf 10 0) HT_.out ?_
    refine done_ (done_of HT_.out (by kernel_rfl)) ?_
    go_upto_if 26 with (fail)
    have H := HC8.out
    clear HC8
    replace H := kb_ H; rcases H with ⟨rfl, H⟩ | ⟨rfl, H⟩
    ·have H' := q_ H
     clear H
     go_wp2
     go_roundg k1
     case measure => have := HK1.out; omega
     case rel => exact ⟨(wrap64 (x5_1 + 1)), z4_, H', ⟨z25_⟩, ⟨cb_⟩⟩
    ·obtain rfl := si_ H
     go_wp2
     go_ret
     exact ⟨z2_, cb_⟩
   ·obtain rfl := si_ H
    go_wp2
    go_ret
    exact ⟨z2_, cb_⟩
 ·rw [if_neg c3] at H
  have c3b0 : ((l0.length : Int) == (l1.length : Int)) = false := beq_eq_false_iff_ne.mpr c3
  have c3b1 : ((l0.length : Int) != (l1.length : Int)) = true := bne_iff_ne.mpr c3
  have c3b2 : (l0.length == l1.length) = false := z56_
  obtain rfl := si_ H
  go_enter Try.func66, Try.ntmps66
  go_wp2
  go_ret
  exact ⟨z2_, cb_⟩

/-! ### laws_eqTree: function 19 -/
set_option maxHeartbeats 8000000 in
set_option maxRecDepth 100000 in
theorem laws_eqTree.step (k : Nat) (ih_laws_eqTreeS : ∀ m_, m_ < k → ∀ (A0 : Option Addr) (c0 : Nat) (l0 : List (S34)) (A1 : Option Addr) (c1 : Nat) (l1 : List (S34)) (r : Bool) (w : World) (hr0 : Kd.C k34 w A0 l0.length l0) (hc0 : l0.length ≤ c0) (hr1 : Kd.C k34 w A1 l1.length l1) (hc1 : l1.length ≤ c1) (h : laws_eqTreeS.f m_ l0 l1 = some r),
  Calls Try.prog 66 #[.slice A0 l0.length c0, .slice A1 l1.length c1] w fun e w' => e = .returned (.bool r) ∧ Below w.heap.size w w') (ih : ∀ m_, m_ < k → ∀ (a0_0 : Bool) (A0_1 : Option Addr) (c0_1 : Nat) (l0_1 : List (S92)) (A0_2 : Option Addr) (c0_2 : Nat) (l0_2 : List Int) (A0_3 : Option Addr) (c0_3 : Nat) (l0_3 : List (S34)) (A0_4 : Option Addr) (c0_4 : Nat) (l0_4 : List (S72)) (a1_0 : Bool) (A1_1 : Option Addr) (c1_1 : Nat) (l1_1 : List (S92)) (A1_2 : Option Addr) (c1_2 : Nat) (l1_2 : List Int) (A1_3 : Option Addr) (c1_3 : Nat) (l1_3 : List (S34)) (A1_4 : Option Addr) (c1_4 : Nat) (l1_4 : List (S72)) (r : Bool) (w : World) (hr0_1 : Kd.C k92 w A0_1 l0_1.length l0_1) (hc0_1 : l0_1.length ≤ c0_1) (hr0_2 : Kd.C (Kd.int .i64) w A0_2 l0_2.length l0_2) (hc0_2 : l0_2.length ≤ c0_2) (hr0_3 : Kd.C k34 w A0_3 l0_3.length l0_3) (hc0_3 : l0_3.length ≤ c0_3) (hr0_4 : Kd.C k72 w A0_4 l0_4.length l0_4) (hc0_4 : l0_4.length ≤ c0_4) (hr1_1 : Kd.C k92 w A1_1 l1_1.length l1_1) (hc1_1 : l1_1.length ≤ c1_1) (hr1_2 : Kd.C (Kd.int .i64) w A1_2 l1_2.length l1_2) (hc1_2 : l1_2.length ≤ c1_2) (hr1_3 : Kd.C k34 w A1_3 l1_3.length l1_3) (hc1_3 : l1_3.length ≤ c1_3) (hr1_4 : Kd.C k72 w A1_4 l1_4.length l1_4) (hc1_4 : l1_4.length ≤ c1_4) (h : laws_eqTree.f m_ a0_0 l0_1 l0_2 l0_3 l0_4 a1_0 l1_1 l1_2 l1_3 l1_4 = some r),
  Calls Try.prog 19 #[.agg #[.bool a0_0, .slice A0_1 l0_1.length c0_1, .slice A0_2 l0_2.length c0_2, .slice A0_3 l0_3.length c0_3, .slice A0_4 l0_4.length c0_4], .agg #[.bool a1_0, .slice A1_1 l1_1.length c1_1, .slice A1_2 l1_2.length c1_2, .slice A1_3 l1_3.length c1_3, .slice A1_4 l1_4.length c1_4]] w fun e w' => e = .returned (.bool r) ∧ Below w.heap.size w w') : ∀ (a0_0 : Bool) (A0_1 : Option Addr) (c0_1 : Nat) (l0_1 : List (S92)) (A0_2 : Option Addr) (c0_2 : Nat) (l0_2 : List Int) (A0_3 : Option Addr) (c0_3 : Nat) (l0_3 : List (S34)) (A0_4 : Option Addr) (c0_4 : Nat) (l0_4 : List (S72)) (a1_0 : Bool) (A1_1 : Option Addr) (c1_1 : Nat) (l1_1 : List (S92)) (A1_2 : Option Addr) (c1_2 : Nat) (l1_2 : List Int) (A1_3 : Option Addr) (c1_3 : Nat) (l1_3 : List (S34)) (A1_4 : Option Addr) (c1_4 : Nat) (l1_4 : List (S72)) (r : Bool) (w : World) (hr0_1 : Kd.C k92 w A0_1 l0_1.length l0_1) (hc0_1 : l0_1.length ≤ c0_1) (hr0_2 : Kd.C (Kd.int .i64) w A0_2 l0_2.length l0_2) (hc0_2 : l0_2.length ≤ c0_2) (hr0_3 : Kd.C k34 w A0_3 l0_3.length l0_3) (hc0_3 : l0_3.length ≤ c0_3) (hr0_4 : Kd.C k72 w A0_4 l0_4.length l0_4) (hc0_4 : l0_4.length ≤ c0_4) (hr1_1 : Kd.C k92 w A1_1 l1_1.length l1_1) (hc1_1 : l1_1.length ≤ c1_1) (hr1_2 : Kd.C (Kd.int .i64) w A1_2 l1_2.length l1_2) (hc1_2 : l1_2.length ≤ c1_2) (hr1_3 : Kd.C k34 w A1_3 l1_3.length l1_3) (hc1_3 : l1_3.length ≤ c1_3) (hr1_4 : Kd.C k72 w A1_4 l1_4.length l1_4) (hc1_4 : l1_4.length ≤ c1_4) (h : laws_eqTree.f k a0_0 l0_1 l0_2 l0_3 l0_4 a1_0 l1_1 l1_2 l1_3 l1_4 = some r),
  Calls Try.prog 19 #[.agg #[.bool a0_0, .slice A0_1 l0_1.length c0_1, .slice A0_2 l0_2.length c0_2, .slice A0_3 l0_3.length c0_3, .slice A0_4 l0_4.length c0_4], .agg #[.bool a1_0, .slice A1_1 l1_1.length c1_1, .slice A1_2 l1_2.length c1_2, .slice A1_3 l1_3.length c1_3, .slice A1_4 l1_4.length c1_4]] w fun e w' => e = .returned (.bool r) ∧ Below w.heap.size w w' := by
 intro a0_0 A0_1 c0_1 l0_1 A0_2 c0_2 l0_2 A0_3 c0_3 l0_3 A0_4 c0_4 l0_4 a1_0 A1_1 c1_1 l1_1 A1_2 c1_2 l1_2 A1_3 c1_3 l1_3 A1_4 c1_4 l1_4 r w hr0_1 hc0_1 hr0_2 hc0_2 hr0_3 hc0_3 hr0_4 hc0_4 hr1_1 hc1_1 hr1_2 hc1_2 hr1_3 hc1_3 hr1_4 hc1_4 h
 cases k with
 | zero => exact absurd h (by simp [laws_eqTree.f])
 | succ k =>
 simp only [laws_eqTree.f] at h
 have hu34 := Try.underlying34
 have HR0_1 := q_ hr0_1
 have HC0_1 := q_ hc0_1
 clear hr0_1 hc0_1
 have HR0_2 := q_ hr0_2
 have HC0_2 := q_ hc0_2
 clear hr0_2 hc0_2
 have HR0_3 := q_ hr0_3
 have HC0_3 := q_ hc0_3
 clear hr0_3 hc0_3
 have HR0_4 := q_ hr0_4
 have HC0_4 := q_ hc0_4
 clear hr0_4 hc0_4
 have HR1_1 := q_ hr1_1
 have HC1_1 := q_ hc1_1
 clear hr1_1 hc1_1
 have HR1_2 := q_ hr1_2
 have HC1_2 := q_ hc1_2
 clear hr1_2 hc1_2
 have HR1_3 := q_ hr1_3
 have HC1_3 := q_ hc1_3
 clear hr1_3 hc1_3
 have HR1_4 := q_ hr1_4
 have HC1_4 := q_ hc1_4
 clear hr1_4 hc1_4
 have HB := q_ (Below.refl w.heap.size w)
 have H := h; clear h
 have HC3 := q_ H
 clear H
 go_enter Try.func19, Try.ntmps19
 go_upto_if 9 with (first | ((with_reducible refine gate_dst (N := 2) rfl ?_); refine box_event ?hg (N := 2) ?hd (cs := #[.bool a0_0, .slice A0_1 l0_1.length c0_1, .slice A0_2 l0_2.length c0_2, .slice A0_3 l0_3.length c0_3, .slice A0_4 l0_4.length c0_4]) (t := 34) ?hr ?_; (case hd => rfl); (case hg => rfl); (case hr => exact z95_); intro gb182 hg w4 hbox hb; have BK182 := q_ (hbox); have GW182 := ge_ hg; have GE182 := ge_ hg; replace HB := hb_ hb; clear hb hbox hg) | ((with_reducible refine gate_dst (N := 3) rfl ?_); refine box_event ?hg (N := 3) ?hd (cs := #[.bool a1_0, .slice A1_1 l1_1.length c1_1, .slice A1_2 l1_2.length c1_2, .slice A1_3 l1_3.length c1_3, .slice A1_4 l1_4.length c1_4]) (t := 34) ?hr ?_; (case hd => rfl); (case hg => rfl); (case hr => exact z95_); intro gb183 hg w5 hbox hb; have BK183 := q_ (hbox); have GW183 := ge_ hg; have GE183 := ge_ hg; replace HB := hb_ hb; have NB182_183 := nl_ hg BK182; have NB183_182 := nr_ hg BK182; replace BK182 := rb_ BK182 hb; clear hb hbox hg; have hnb6 := NB182_183.out; have hnc6 := NB183_182.out; obtain ⟨hz_, hz_, hz_, hz_, hz_, hz_, hz_, hz_, hz_, hz_⟩ := cs5_ BK182.out; obtain ⟨hz_, hz_, hz_, hz_, hz_, hz_, hz_, hz_, hz_, hz_⟩ := cs5_ BK183.out))
 (try simp only [Act.put, List.setIfInBounds_toArray, List.set_cons_zero, List.set_cons_succ])
 have H := HC3.out
 clear HC3
 by_cases c9 : (a0_0 != a1_0) = true
 ·rw [if_pos c9] at H
  have c9b0 : (a0_0 != a1_0) = true := c9
  (try (have c9b1 : decide (a0_0 = a1_0) = false := z87_))
  (try (have c9b2 : (a0_0 == a1_0) = false := z87_))
  (try (have c9b3 : ¬ (a0_0 = a1_0) := z87_))
  clear c9
  (first | rw [c9b0] | rw [c9b1] | (simp only [i64_w, i32_w]; first | rw [c9b0] | rw [c9b1]) | rw [c9b2] | skip)
  obtain rfl := si_ H
  go_wp2
  go_ret
  exact ⟨z2_, cb_⟩
 ·rw [if_neg c9] at H
  have c9b0 : (a0_0 != a1_0) = false := z87_
  (try (have c9b1 : decide (a0_0 = a1_0) = true := z87_))
  (try (have c9b2 : (a0_0 == a1_0) = true := z87_))
  clear c9
  (first | rw [c9b0] | rw [c9b1] | (simp only [i64_w, i32_w]; first | rw [c9b0] | rw [c9b1]) | rw [c9b2] | skip)
  replace H := bi_ H; obtain ⟨t184, A10, H⟩ := H
  have HC11 := q_ H
  clear H
  have hnb12 := NB182_183.out
  have hnc12 := NB183_182.out
  obtain ⟨hz_, hz_, hz_, hz_, hz_, hz_, hz_, hz_, hz_, hz_⟩ := cs5_ BK182.out
  obtain ⟨hz_, hz_, hz_, hz_, hz_, hz_, hz_, hz_, hz_, hz_⟩ := cs5_ BK183.out
  go_upto_if 15 with (first | ((with_reducible refine gate_callee (f := 38) rfl ?_); refine goesL_ (some 14) rfl rfl Try.func38 (by kernel_rfl) rfl #[.slice A0_1 l0_1.length c0_1, .slice A1_1 l1_1.length c1_1] rfl z0_ ?_; (with_reducible refine (laws_eqPairS.calls k _ _ l0_1 _ _ l1_1 t184 _ ?side1 ?side2 ?side3 ?side4 A10.out).mono ?_); (case side1 => exact z94_); (case side2 => exact z117_); (case side3 => repeat (first | exact (Kd.C_below HR1_1.out HB.out) | (with_reducible refine Kd.C_alloc ?_ _) | (with_reducible refine Kd.C_drewN ?_ _) | (with_reducible refine Kd.C_drew ?_))); (case side4 => exact HC1_1.out); rintro e w15 ⟨rfl, hb⟩; refine ⟨_, rfl, ?_⟩; replace BK182 := rb_ BK182 hb; replace BK183 := rb_ BK183 hb; replace HB := hb_ hb; (try clear hb); (try clear hb2); (try clear hk); (try clear hi)))
  (try simp only [Act.put, List.setIfInBounds_toArray, List.set_cons_zero, List.set_cons_succ])
  have H := HC11.out
  clear HC11
  replace H := kb_ H; rcases H with ⟨rfl, H⟩ | ⟨rfl, H⟩
  ·replace H := bi_ H; obtain ⟨t185, A17, H⟩ := H
   have HC18 := q_ H
   clear H
   have hnb19 := NB182_183.out
   have hnc19 := NB183_182.out
   obtain ⟨hz_, hz_, hz_, hz_, hz_, hz_, hz_, hz_, hz_, hz_⟩ := cs5_ BK182.out
   obtain ⟨hz_, hz_, hz_, hz_, hz_, hz_, hz_, hz_, hz_, hz_⟩ := cs5_ BK183.out
   go_upto_if 21 with (first | ((with_reducible refine gate_callee (f := 65) rfl ?_); refine goesL_ (some 20) rfl rfl Try.func65 (by kernel_rfl) rfl #[.slice A0_2 l0_2.length c0_2, .slice A1_2 l1_2.length c1_2] rfl z0_ ?_; (with_reducible refine (laws_eqIntS.calls k _ _ l0_2 _ _ l1_2 t185 _ ?side1 ?side2 ?side3 ?side4 A17.out).mono ?_); (case side1 => exact z97_); (case side2 => exact HC0_2.out); (case side3 => repeat (first | exact (Kd.C_below HR1_2.out HB.out) | (with_reducible refine Kd.C_alloc ?_ _) | (with_reducible refine Kd.C_drewN ?_ _) | (with_reducible refine Kd.C_drew ?_))); (case side4 => exact HC1_2.out); rintro e w' ⟨rfl, ⟨nd, rfl⟩⟩; refine ⟨_, rfl, ?_⟩))
   (try simp only [Act.put, List.setIfInBounds_toArray, List.set_cons_zero, List.set_cons_succ])
   have H := HC18.out
   clear HC18
   replace H := kb_ H; rcases H with ⟨rfl, H⟩ | ⟨rfl, H⟩
   ·replace H := bi_ H; obtain ⟨t186, A23, H⟩ := H
    have HC24 := q_ H
    clear H
    have hnb25 := NB182_183.out
    have hnc25 := NB183_182.out
    obtain ⟨hz_, hz_, hz_, hz_, hz_, hz_, hz_, hz_, hz_, hz_⟩ := cs5_ BK182.out
    obtain ⟨hz_, hz_, hz_, hz_, hz_, hz_, hz_, hz_, hz_, hz_⟩ := cs5_ BK183.out
    go_upto_if 27 with (first | ((with_reducible refine gate_callee (f := 66) rfl ?_); refine goesL_ (some 26) rfl rfl Try.func66 (by kernel_rfl) rfl #[.slice A0_3 l0_3.length c0_3, .slice A1_3 l1_3.length c1_3] rfl z0_ ?_; (with_reducible refine (ih_laws_eqTreeS k (by omega) _ _ l0_3 _ _ l1_3 t186 _ ?side1 ?side2 ?side3 ?side4 A23.out).mono ?_); (case side1 => exact z112_); (case side2 => exact HC0_3.out); (case side3 => repeat (first | exact (Kd.C_below HR1_3.out cb_) | (with_reducible refine Kd.C_alloc ?_ _) | (with_reducible refine Kd.C_drewN ?_ _) | (with_reducible refine Kd.C_drew ?_))); (case side4 => exact HC1_3.out); rintro e w28 ⟨rfl, hb⟩; refine ⟨_, rfl, ?_⟩; replace BK182 := rb_ BK182 hb; replace BK183 := rb_ BK183 hb; replace HB := hb_ hb; (try clear hb); (try clear hb2); (try clear hk); (try clear hi)))
    (try simp only [Act.put, List.setIfInBounds_toArray, List.set_cons_zero, List.set_cons_succ])
    have H := HC24.out
    clear HC24
    replace H := kb_ H; rcases H with ⟨rfl, H⟩ | ⟨rfl, H⟩
    ·replace H := bi_ H; obtain ⟨t187, A30, H⟩ := H
     have HC31 := q_ H
     clear H
     have hnb32 := NB182_183.out
     have hnc32 := NB183_182.out
     obtain ⟨hz_, hz_, hz_, hz_, hz_, hz_, hz_, hz_, hz_, hz_⟩ := cs5_ BK182.out
     obtain ⟨hz_, hz_, hz_, hz_, hz_, hz_, hz_, hz_, hz_, hz_⟩ := cs5_ BK183.out
     go_upto_if 33 with (first | ((with_reducible refine gate_callee (f := 28) rfl ?_); refine goesL_ (some 32) rfl rfl Try.func28 (by kernel_rfl) rfl #[.slice A0_4 l0_4.length c0_4, .slice A1_4 l1_4.length c1_4] rfl z0_ ?_; (with_reducible refine (laws_eqMsgS.calls k _ _ l0_4 _ _ l1_4 t187 _ ?side1 ?side2 ?side3 ?side4 A30.out).mono ?_); (case side1 => exact z96_); (case side2 => exact z122_); (case side3 => repeat (first | exact (Kd.C_below HR1_4.out HB.out) | (with_reducible refine Kd.C_alloc ?_ _) | (with_reducible refine Kd.C_drewN ?_ _) | (with_reducible refine Kd.C_drew ?_))); (case side4 => exact HC1_4.out); rintro e w35 ⟨rfl, hb⟩; refine ⟨_, rfl, ?_⟩; replace BK182 := rb_ BK182 hb; replace BK183 := rb_ BK183 hb; replace HB := hb_ hb; (try clear hb); (try clear hb2); (try clear hk); (try clear hi)))
     (try simp only [Act.put, List.setIfInBounds_toArray, List.set_cons_zero, List.set_cons_succ])
     have H := HC31.out
     clear HC31
     replace H := kb_ H; rcases H with ⟨rfl, H⟩ | ⟨rfl, H⟩
     ·obtain rfl := si_ H
      go_wp2
      go_ret
      exact ⟨z2_, cb_⟩
     ·obtain rfl := si_ H
      go_wp2
      go_ret
      exact ⟨z2_, cb_⟩
    ·obtain rfl := si_ H
     go_wp2
     go_ret
     exact ⟨z2_, cb_⟩
   ·obtain rfl := si_ H
    go_wp2
    go_ret
    exact ⟨z2_, cb_⟩
  ·obtain rfl := si_ H
   go_wp2
   go_ret
   exact ⟨z2_, cb_⟩

theorem laws_eqTreeS.all : ∀ k, (∀ (A0 : Option Addr) (c0 : Nat) (l0 : List (S34)) (A1 : Option Addr) (c1 : Nat) (l1 : List (S34)) (r : Bool) (w : World) (hr0 : Kd.C k34 w A0 l0.length l0) (hc0 : l0.length ≤ c0) (hr1 : Kd.C k34 w A1 l1.length l1) (hc1 : l1.length ≤ c1) (h : laws_eqTreeS.f k l0 l1 = some r),
  Calls Try.prog 66 #[.slice A0 l0.length c0, .slice A1 l1.length c1] w fun e w' => e = .returned (.bool r) ∧ Below w.heap.size w w') ∧ (∀ (a0_0 : Bool) (A0_1 : Option Addr) (c0_1 : Nat) (l0_1 : List (S92)) (A0_2 : Option Addr) (c0_2 : Nat) (l0_2 : List Int) (A0_3 : Option Addr) (c0_3 : Nat) (l0_3 : List (S34)) (A0_4 : Option Addr) (c0_4 : Nat) (l0_4 : List (S72)) (a1_0 : Bool) (A1_1 : Option Addr) (c1_1 : Nat) (l1_1 : List (S92)) (A1_2 : Option Addr) (c1_2 : Nat) (l1_2 : List Int) (A1_3 : Option Addr) (c1_3 : Nat) (l1_3 : List (S34)) (A1_4 : Option Addr) (c1_4 : Nat) (l1_4 : List (S72)) (r : Bool) (w : World) (hr0_1 : Kd.C k92 w A0_1 l0_1.length l0_1) (hc0_1 : l0_1.length ≤ c0_1) (hr0_2 : Kd.C (Kd.int .i64) w A0_2 l0_2.length l0_2) (hc0_2 : l0_2.length ≤ c0_2) (hr0_3 : Kd.C k34 w A0_3 l0_3.length l0_3) (hc0_3 : l0_3.length ≤ c0_3) (hr0_4 : Kd.C k72 w A0_4 l0_4.length l0_4) (hc0_4 : l0_4.length ≤ c0_4) (hr1_1 : Kd.C k92 w A1_1 l1_1.length l1_1) (hc1_1 : l1_1.length ≤ c1_1) (hr1_2 : Kd.C (Kd.int .i64) w A1_2 l1_2.length l1_2) (hc1_2 : l1_2.length ≤ c1_2) (hr1_3 : Kd.C k34 w A1_3 l1_3.length l1_3) (hc1_3 : l1_3.length ≤ c1_3) (hr1_4 : Kd.C k72 w A1_4 l1_4.length l1_4) (hc1_4 : l1_4.length ≤ c1_4) (h : laws_eqTree.f k a0_0 l0_1 l0_2 l0_3 l0_4 a1_0 l1_1 l1_2 l1_3 l1_4 = some r),
  Calls Try.prog 19 #[.agg #[.bool a0_0, .slice A0_1 l0_1.length c0_1, .slice A0_2 l0_2.length c0_2, .slice A0_3 l0_3.length c0_3, .slice A0_4 l0_4.length c0_4], .agg #[.bool a1_0, .slice A1_1 l1_1.length c1_1, .slice A1_2 l1_2.length c1_2, .slice A1_3 l1_3.length c1_3, .slice A1_4 l1_4.length c1_4]] w fun e w' => e = .returned (.bool r) ∧ Below w.heap.size w w') := by
 intro k
 induction k using Nat.strongRecOn with
 | _ k ih_ =>
 exact ⟨laws_eqTreeS.step k (fun m_ h_ => (ih_ m_ h_).1) (fun m_ h_ => (ih_ m_ h_).2), laws_eqTree.step k (fun m_ h_ => (ih_ m_ h_).1) (fun m_ h_ => (ih_ m_ h_).2)⟩
theorem laws_eqTreeS.calls (k : Nat) : ∀ (A0 : Option Addr) (c0 : Nat) (l0 : List (S34)) (A1 : Option Addr) (c1 : Nat) (l1 : List (S34)) (r : Bool) (w : World) (hr0 : Kd.C k34 w A0 l0.length l0) (hc0 : l0.length ≤ c0) (hr1 : Kd.C k34 w A1 l1.length l1) (hc1 : l1.length ≤ c1) (h : laws_eqTreeS.f k l0 l1 = some r),
  Calls Try.prog 66 #[.slice A0 l0.length c0, .slice A1 l1.length c1] w fun e w' => e = .returned (.bool r) ∧ Below w.heap.size w w' := (laws_eqTreeS.all k).1
theorem laws_eqTree.calls (k : Nat) : ∀ (a0_0 : Bool) (A0_1 : Option Addr) (c0_1 : Nat) (l0_1 : List (S92)) (A0_2 : Option Addr) (c0_2 : Nat) (l0_2 : List Int) (A0_3 : Option Addr) (c0_3 : Nat) (l0_3 : List (S34)) (A0_4 : Option Addr) (c0_4 : Nat) (l0_4 : List (S72)) (a1_0 : Bool) (A1_1 : Option Addr) (c1_1 : Nat) (l1_1 : List (S92)) (A1_2 : Option Addr) (c1_2 : Nat) (l1_2 : List Int) (A1_3 : Option Addr) (c1_3 : Nat) (l1_3 : List (S34)) (A1_4 : Option Addr) (c1_4 : Nat) (l1_4 : List (S72)) (r : Bool) (w : World) (hr0_1 : Kd.C k92 w A0_1 l0_1.length l0_1) (hc0_1 : l0_1.length ≤ c0_1) (hr0_2 : Kd.C (Kd.int .i64) w A0_2 l0_2.length l0_2) (hc0_2 : l0_2.length ≤ c0_2) (hr0_3 : Kd.C k34 w A0_3 l0_3.length l0_3) (hc0_3 : l0_3.length ≤ c0_3) (hr0_4 : Kd.C k72 w A0_4 l0_4.length l0_4) (hc0_4 : l0_4.length ≤ c0_4) (hr1_1 : Kd.C k92 w A1_1 l1_1.length l1_1) (hc1_1 : l1_1.length ≤ c1_1) (hr1_2 : Kd.C (Kd.int .i64) w A1_2 l1_2.length l1_2) (hc1_2 : l1_2.length ≤ c1_2) (hr1_3 : Kd.C k34 w A1_3 l1_3.length l1_3) (hc1_3 : l1_3.length ≤ c1_3) (hr1_4 : Kd.C k72 w A1_4 l1_4.length l1_4) (hc1_4 : l1_4.length ≤ c1_4) (h : laws_eqTree.f k a0_0 l0_1 l0_2 l0_3 l0_4 a1_0 l1_1 l1_2 l1_3 l1_4 = some r),
  Calls Try.prog 19 #[.agg #[.bool a0_0, .slice A0_1 l0_1.length c0_1, .slice A0_2 l0_2.length c0_2, .slice A0_3 l0_3.length c0_3, .slice A0_4 l0_4.length c0_4], .agg #[.bool a1_0, .slice A1_1 l1_1.length c1_1, .slice A1_2 l1_2.length c1_2, .slice A1_3 l1_3.length c1_3, .slice A1_4 l1_4.length c1_4]] w fun e w' => e = .returned (.bool r) ∧ Below w.heap.size w w' := (laws_eqTreeS.all k).2

/-! ### laws_markMsgS: function 30 -/
def laws_markMsgS.l0 : Nat → List (S72) → Int → Int → Option (Int × (List (S72)))
 | 0, _, _, _ => none
 | k + 1, x0, x1, x5 => if x5 < (x0.length : Int) then (if 0 ≤ x5 then ((some (x0.set (x5 : Int).toNat (⟨x1, (rd_T72 x0 x5).f1, (rd_T72 x0 x5).f2⟩ : S72) : List (S72))).bind fun y188 => ((some (y188.set (x5 : Int).toNat (⟨(rd_T72 y188 x5).f0, wrap64 (x1 + 1), (rd_T72 y188 x5).f2⟩ : S72) : List (S72))).bind fun y189 => (laws_markMsgS.l0 k (y189.set (x5 : Int).toNat (⟨(rd_T72 y189 x5).f0, (rd_T72 y189 x5).f1, wrap64 ((wrap64 (x1 + 1)) + 1)⟩ : S72)) (wrap64 ((wrap64 ((wrap64 (x1 + 1)) + 1)) + 1)) (wrap64 (x5 + 1))))) else (none)) else (some (x1, x0))
def laws_markMsgS.f (k : Nat) (l0 : List (S72)) (a1 : Int) : Option (Int × (List (S72))) := laws_markMsgS.l0 k l0 a1 0
theorem laws_markMsgS.mono_l : ∀ k, (∀ y0 y1 y2, LeO (laws_markMsgS.l0 k y0 y1 y2) (laws_markMsgS.l0 (k + 1) y0 y1 y2))
 | 0 => fun _ _ _ r h => by simp [laws_markMsgS.l0] at h
 | k + 1 => by
  have ih0 := laws_markMsgS.mono_l k
  ·intro y0 y1 y2
   unfold laws_markMsgS.l0
   exact zm_
theorem laws_markMsgS.mono : ∀ a0 a1 k, LeO (laws_markMsgS.f k a0 a1) (laws_markMsgS.f (k + 1) a0 a1) := by
 intro a0 a1 k
 have ih0 := laws_markMsgS.mono_l k
 unfold laws_markMsgS.f
 exact zm_
set_option maxHeartbeats 8000000 in
set_option maxRecDepth 100000 in
theorem laws_markMsgS.calls (k : Nat) (P0_ : Nat → Prop) (u9000_ : Value) (l0 : List (S72)) (a1 : Int) (r1 : Int) (r2 : List (S72)) (w0 w : World) (hB : Below w0.heap.size w0 w) (ho0 : Kd.R k72 72 w w0.heap.size P0_ u9000_ l0) (h : laws_markMsgS.f k l0 a1 = some (r1, r2)) :
  Calls Try.prog 30 #[u9000_, .int .i64 a1] w fun e w' => e = .returned (.int .i64 r1) ∧ Kd.R k72 72 w' w0.heap.size (fun k_ => (P0_ k_ ∨ w.heap.size ≤ k_)) u9000_ r2 ∧ Below w0.heap.size w0 w' ∧ Kept w w' (fun k_ => P0_ k_) := by
 have HO0 := q_ (show Kd.R k72 72 w w0.heap.size (fun k_ => (P0_ k_ ∨ w.heap.size ≤ k_)) u9000_ l0 from Kd.R_mono ho0 (fun k_ hk => (.inl hk)))
 have HK := q_ (Kept.refl w (fun k_ => P0_ k_))
 have HW0 := q_ hB.size
 have HB := q_ hB
 clear hB
 have H := h; clear h
 unfold laws_markMsgS.f at H
 have H' := q_ H
 clear H
 go_enter Try.func30, Try.ntmps30
 go_wp2
 go_loopg [1, 5] k (fun kq v1 v5 w' => ∃ (x0_1 : List (S72)) (x1_1 : Int) (x5_1 : Int), v1 = .int .i64 x1_1 ∧ v5 = .int .i64 x5_1 ∧ Aside0 (laws_markMsgS.l0 kq x0_1 x1_1 x5_1 = some (r1, r2)) ∧ Aside0 (kq ≤ k) ∧ Aside0 (Kd.R k72 72 w' w0.heap.size (fun k_ => (P0_ k_ ∨ w.heap.size ≤ k_)) u9000_ x0_1) ∧ Aside0 (Kept w w' (fun k_ => P0_ k_)) ∧ Aside0 (Below w0.heap.size w0 w'))
 case atStart => exact ⟨(l0), (a1), (0), z4_, z4_, H', ⟨Nat.le_refl _⟩, ⟨z24_⟩, ⟨z5_⟩, ⟨cb_⟩⟩
 case round =>
  clear H'
  try clear p2
  obtain ⟨x0_1, x1_1, x5_1, rfl, rfl, HA, HK1, HO_0, HK, HB⟩ := hrel
  obtain ⟨k1, rfl, H⟩ := rn_ (k := gk) HA (by rintro rfl; simp only [laws_markMsgS.l0])
  clear HA
  simp only [laws_markMsgS.l0] at H
  replace H := kd_ H; rcases H with ⟨c3b0, H⟩ | ⟨c3b0, H⟩
  ·replace H := kdn_ H; obtain ⟨c4b0, H⟩ := H
   obtain ⟨y188, hy_⟩ : ∃ y_ : List (S72), y_ = (x0_1.set (x5_1 : Int).toNat (⟨x1_1, (rd_T72 x0_1 x5_1).f1, (rd_T72 x0_1 x5_1).f2⟩ : S72)) := ⟨_, rfl⟩
   replace H : ((some (y188.set (x5_1 : Int).toNat (⟨(rd_T72 y188 x5_1).f0, wrap64 (x1_1 + 1), (rd_T72 y188 x5_1).f2⟩ : S72) : List (S72))).bind fun y189 => (laws_markMsgS.l0 k1 (y189.set (x5_1 : Int).toNat (⟨(rd_T72 y189 x5_1).f0, (rd_T72 y189 x5_1).f1, wrap64 ((wrap64 (x1_1 + 1)) + 1)⟩ : S72)) (wrap64 ((wrap64 ((wrap64 (x1_1 + 1)) + 1)) + 1)) (wrap64 (x5_1 + 1)))) = some (r1, r2) := z3_
   have Ny188 := q_ hy_
   clear hy_
   obtain ⟨y189, hy_⟩ : ∃ y_ : List (S72), y_ = (y188.set (x5_1 : Int).toNat (⟨(rd_T72 y188 x5_1).f0, wrap64 (x1_1 + 1), (rd_T72 y188 x5_1).f2⟩ : S72)) := ⟨_, rfl⟩
   replace H : (laws_markMsgS.l0 k1 (y189.set (x5_1 : Int).toNat (⟨(rd_T72 y189 x5_1).f0, (rd_T72 y189 x5_1).f1, wrap64 ((wrap64 (x1_1 + 1)) + 1)⟩ : S72)) (wrap64 ((wrap64 ((wrap64 (x1_1 + 1)) + 1)) + 1)) (wrap64 (x5_1 + 1))) = some (r1, r2) := z3_
   have Ny189 := q_ hy_
   clear hy_
   obtain ⟨y190, hy_⟩ : ∃ y_ : List (S72), y_ = (y189.set (x5_1 : Int).toNat (⟨(rd_T72 y189 x5_1).f0, (rd_T72 y189 x5_1).f1, wrap64 ((wrap64 (x1_1 + 1)) + 1)⟩ : S72)) := ⟨_, rfl⟩
   replace H : (laws_markMsgS.l0 k1 y190 (wrap64 ((wrap64 ((wrap64 (x1_1 + 1)) + 1)) + 1)) (wrap64 (x5_1 + 1))) = some (r1, r2) := z3_
   have Ny190 := q_ hy_
   clear hy_
   have H' := q_ H
   clear H
   obtain ⟨Ao8, co8, eo8⟩ := Kd.R_slice HO_0.out
   subst eo8
   have p5 : 0 ≤ (x5_1 : Int) := of_decide_eq_true z1_
   have q5 : (x5_1 : Int) < ((x0_1.length : Int) : Int) := of_decide_eq_true z1_
   obtain ⟨go5, co5, eo5, gb5, gl5, cl5, HG5⟩ := Kd.R_form HO_0.out (by omega)
   (first | cases eo5 | (injection eo5 with ea_ en_ ec_; (first | subst ea_ | (injection ea_ with ea_; subst ea_)); subst ec_; clear en_))
   have GB5 := q_ gb5
   have GG5 := q_ HG5
   clear gb5 gl5 HG5
   have HMgo5 := q_ (show (P0_ go5 ∨ w.heap.size ≤ go5) from (HO_0.out.1 _ rfl))
   obtain ⟨ce5, hcl5, hM5, hcc5, hfr5⟩ := Kd.R_elem HO_0.out z72 (x5_1 : Int) p5 q5
   obtain rfl := k72_openM hM5
   have hx5_0 : wr.cell? ⟨go5, (x5_1 : Int).toNat * 3, none⟩ = some (.int .i64 ((rd_T72 x0_1 x5_1).f0)) := hcc5 0 _ rfl
   have hx5_1 : wr.cell? ⟨go5, (x5_1 : Int).toNat * 3 + 1, none⟩ = some (.int .i64 ((rd_T72 x0_1 x5_1).f1)) := hcc5 1 _ rfl
   have hx5_2 : wr.cell? ⟨go5, (x5_1 : Int).toNat * 3 + 2, none⟩ = some (.int .i64 ((rd_T72 x0_1 x5_1).f2)) := hcc5 2 _ rfl
   have hf5_0 : wr.frozen? ⟨go5, (x5_1 : Int).toNat * 3, none⟩ = false := hfr5 0
   have hf5_1 : wr.frozen? ⟨go5, (x5_1 : Int).toNat * 3 + 1, none⟩ = false := hfr5 1
   have hf5_2 : wr.frozen? ⟨go5, (x5_1 : Int).toNat * 3 + 2, none⟩ = false := hfr5 2
   clear hcl5 hcc5 hfr5 hM5
   replace p5 := eq_true p5
   replace q5 := eq_true q5
   have HX9 := q_ (show Kd.R k72 72 wr w0.heap.size (fun k_ => (P0_ k_ ∨ w.heap.size ≤ k_)) (.slice (some ⟨go5, 0, none⟩) x0_1.length co8) x0_1 from z6_)
   obtain ⟨ce9, hcl9, hM9, hcc9, hfr9⟩ := Kd.R_elem HX9.out z72 (x5_1 : Int) (of_decide_eq_true z1_) z90_
   obtain rfl := k72_openM hM9
   have HP9 := Kd.R_seg HX9.out (x5_1 : Int) (of_decide_eq_true z1_) z90_ (seg := [.int .i64 x1_1]) (j := 0) hcl9 hcc9 (show 1 ≤ 3 from by decide) (x' := (⟨x1_1, (rd_T72 x0_1 x5_1).f1, (rd_T72 x0_1 x5_1).f2⟩ : S72)) (k72_mkM _ _ _ (⟨x1_1, (rd_T72 x0_1 x5_1).f1, (rd_T72 x0_1 x5_1).f2⟩ : S72) ) (fun _ hk => hk)
   have hx9_0 := hcc9 0 _ rfl
   (try simp only [show (k72).sz = 3 from rfl, Nat.mul_one, Nat.add_zero] at hx9_0)
   have hf9_0 := hfr9 0
   (try simp only [show (k72).sz = 3 from rfl, Nat.mul_one, Nat.add_zero] at hf9_0)
   clear hcl9 hcc9 hfr9 hM9
   go_wp2_with (first | ((with_reducible refine gate_store (t := 3) (p := 16) rfl ?_); refine store_event (t := 3) (p := 16) (v := ?vo_w10) (w1 := (wr.setCell ⟨go5, (x5_1 : Int).toNat * 3, none⟩ (.int .i64 x1_1))) ?hg ?ho ?hn ?hr ?_; (case ho => rfl); (case hg => rfl); (case hn => rfl); (case hr => exact z95_); intro w10 hw; have hg : wr.grownBy w10 (some go5) := (by rw [hw]; exact HP9.2); have hp_ : Kd.R k72 72 w10 w0.heap.size (fun k_ => (P0_ k_ ∨ w.heap.size ≤ k_)) (.slice (some ⟨go5, 0, none⟩) x0_1.length co8) y188 := (by rw [hw, Ny188.out]; exact HP9.1); clear HP9; replace HB := q_ ((z46_ : Below w0.heap.size w0 w10)); replace HK := q_ (Kept.of_grown (S := (fun k_ => P0_ k_)) hg z5_ (fun k_ e_ => (HO_0.out.1 k_ e_))); replace HO_0 := q_ (hp_); clear hg hw hp_; have p6 : 0 ≤ (x5_1 : Int) := of_decide_eq_true z1_; have q6 : (x5_1 : Int) < ((x0_1.length : Int) : Int) := of_decide_eq_true z1_; obtain ⟨ce6, hcl6, hM6, hcc6, hfr6⟩ := Kd.R_elem HO_0.out z72 (x5_1 : Int) p6 q6; obtain rfl := k72_openM hM6; have hx6_0 : w10.cell? ⟨go5, (x5_1 : Int).toNat * 3, none⟩ = some (.int .i64 ((rd_T72 y188 x5_1).f0)) := hcc6 0 _ rfl; have hx6_1 : w10.cell? ⟨go5, (x5_1 : Int).toNat * 3 + 1, none⟩ = some (.int .i64 ((rd_T72 y188 x5_1).f1)) := hcc6 1 _ rfl; have hx6_2 : w10.cell? ⟨go5, (x5_1 : Int).toNat * 3 + 2, none⟩ = some (.int .i64 ((rd_T72 y188 x5_1).f2)) := hcc6 2 _ rfl; have hf6_0 : w10.frozen? ⟨go5, (x5_1 : Int).toNat * 3, none⟩ = false := hfr6 0; have hf6_1 : w10.frozen? ⟨go5, (x5_1 : Int).toNat * 3 + 1, none⟩ = false := hfr6 1; have hf6_2 : w10.frozen? ⟨go5, (x5_1 : Int).toNat * 3 + 2, none⟩ = false := hfr6 2; clear hcl6 hcc6 hfr6 hM6; replace p6 := eq_true p6; replace q6 := eq_true q6; have HX11 := q_ (show Kd.R k72 72 w10 w0.heap.size (fun k_ => (P0_ k_ ∨ w.heap.size ≤ k_)) (.slice (some ⟨go5, 0, none⟩) x0_1.length co8) y188 from z6_); obtain ⟨ce11, hcl11, hM11, hcc11, hfr11⟩ := Kd.R_elem HX11.out z72 (x5_1 : Int) (of_decide_eq_true z1_) z90_; obtain rfl := k72_openM hM11; have HP11 := Kd.R_seg HX11.out (x5_1 : Int) (of_decide_eq_true z1_) z90_ (seg := [.int .i64 (wrap64 (x1_1 + 1))]) (j := 1) hcl11 hcc11 (show 2 ≤ 3 from by decide) (x' := (⟨(rd_T72 y188 x5_1).f0, wrap64 (x1_1 + 1), (rd_T72 y188 x5_1).f2⟩ : S72)) (k72_mkM _ _ _ (⟨(rd_T72 y188 x5_1).f0, wrap64 (x1_1 + 1), (rd_T72 y188 x5_1).f2⟩ : S72) ) (fun _ hk => hk); have hx11_1 := hcc11 1 _ rfl; (try simp only [show (k72).sz = 3 from rfl, Nat.mul_one, Nat.add_zero] at hx11_1); have hf11_1 := hfr11 1; (try simp only [show (k72).sz = 3 from rfl, Nat.mul_one, Nat.add_zero] at hf11_1); clear hcl11 hcc11 hfr11 hM11) | ((with_reducible refine gate_store (t := 3) (p := 23) rfl ?_); refine store_event (t := 3) (p := 23) (v := ?vo_w12) (w1 := (w10.setCell ⟨go5, (x5_1 : Int).toNat * 3 + 1, none⟩ (.int .i64 (wrap64 (x1_1 + 1))))) ?hg ?ho ?hn ?hr ?_; (case ho => rfl); (case hg => rfl); (case hn => rfl); (case hr => exact z95_); intro w12 hw; have hg : w10.grownBy w12 (some go5) := (by rw [hw]; exact HP11.2); have hp_ : Kd.R k72 72 w12 w0.heap.size (fun k_ => (P0_ k_ ∨ w.heap.size ≤ k_)) (.slice (some ⟨go5, 0, none⟩) x0_1.length co8) y189 := (by rw [hw, Ny189.out]; exact HP11.1); clear HP11; replace HB := q_ ((z46_ : Below w0.heap.size w0 w12)); replace HK := q_ (Kept.of_grown (S := (fun k_ => P0_ k_)) hg z5_ (fun k_ e_ => (HO_0.out.1 k_ e_))); replace HO_0 := q_ (hp_); clear hg hw hp_; have p7 : 0 ≤ (x5_1 : Int) := of_decide_eq_true z1_; have q7 : (x5_1 : Int) < ((x0_1.length : Int) : Int) := of_decide_eq_true z1_; obtain ⟨ce7, hcl7, hM7, hcc7, hfr7⟩ := Kd.R_elem HO_0.out z72 (x5_1 : Int) p7 q7; obtain rfl := k72_openM hM7; have hx7_0 : w12.cell? ⟨go5, (x5_1 : Int).toNat * 3, none⟩ = some (.int .i64 ((rd_T72 y189 x5_1).f0)) := hcc7 0 _ rfl; have hx7_1 : w12.cell? ⟨go5, (x5_1 : Int).toNat * 3 + 1, none⟩ = some (.int .i64 ((rd_T72 y189 x5_1).f1)) := hcc7 1 _ rfl; have hx7_2 : w12.cell? ⟨go5, (x5_1 : Int).toNat * 3 + 2, none⟩ = some (.int .i64 ((rd_T72 y189 x5_1).f2)) := hcc7 2 _ rfl; have hf7_0 : w12.frozen? ⟨go5, (x5_1 : Int).toNat * 3, none⟩ = false := hfr7 0; have hf7_1 : w12.frozen? ⟨go5, (x5_1 : Int).toNat * 3 + 1, none⟩ = false := hfr7 1; have hf7_2 : w12.frozen? ⟨go5, (x5_1 : Int).toNat * 3 + 2, none⟩ = false := hfr7 2; clear hcl7 hcc7 hfr7 hM7; replace p7 := eq_true p7; replace q7 := eq_true q7; have HX13 := q_ (show Kd.R k72 72 w12 w0.heap.size (fun k_ => (P0_ k_ ∨ w.heap.size ≤ k_)) (.slice (some ⟨go5, 0, none⟩) x0_1.length co8) y189 from z6_); obtain ⟨ce13, hcl13, hM13, hcc13, hfr13⟩ := Kd.R_elem HX13.out z72 (x5_1 : Int) (of_decide_eq_true z1_) z90_; obtain rfl := k72_openM hM13; have HP13 := Kd.R_seg HX13.out (x5_1 : Int) (of_decide_eq_true z1_) z90_ (seg := [.int .i64 (wrap64 ((wrap64 (x1_1 + 1)) + 1))]) (j := 2) hcl13 hcc13 (show 3 ≤ 3 from by decide) (x' := (⟨(rd_T72 y189 x5_1).f0, (rd_T72 y189 x5_1).f1, wrap64 ((wrap64 (x1_1 + 1)) + 1)⟩ : S72)) (k72_mkM _ _ _ (⟨(rd_T72 y189 x5_1).f0, (rd_T72 y189 x5_1).f1, wrap64 ((wrap64 (x1_1 + 1)) + 1)⟩ : S72) ) (fun _ hk => hk); have hx13_2 := hcc13 2 _ rfl; (try simp only [show (k72).sz = 3 from rfl, Nat.mul_one, Nat.add_zero] at hx13_2); have hf13_2 := hfr13 2; (try simp only [show (k72).sz = 3 from rfl, Nat.mul_one, Nat.add_zero] at hf13_2); clear hcl13 hcc13 hfr13 hM13) | ((with_reducible refine gate_store (t := 3) (p := 30) rfl ?_); refine store_event (t := 3) (p := 30) (v := ?vo_w14) (w1 := (w12.setCell ⟨go5, (x5_1 : Int).toNat * 3 + 2, none⟩ (.int .i64 (wrap64 ((wrap64 (x1_1 + 1)) + 1))))) ?hg ?ho ?hn ?hr ?_; (case ho => rfl); (case hg => rfl); (case hn => rfl); (case hr => exact z95_); intro w14 hw; have hg : w12.grownBy w14 (some go5) := (by rw [hw]; exact HP13.2); have hp_ : Kd.R k72 72 w14 w0.heap.size (fun k_ => (P0_ k_ ∨ w.heap.size ≤ k_)) (.slice (some ⟨go5, 0, none⟩) x0_1.length co8) y190 := (by rw [hw, Ny190.out]; exact HP13.1); clear HP13; replace HB := q_ ((z46_ : Below w0.heap.size w0 w14)); replace HK := q_ (Kept.of_grown (S := (fun k_ => P0_ k_)) hg z5_ (fun k_ e_ => (HO_0.out.1 k_ e_))); replace HO_0 := q_ (hp_); clear hg hw hp_))
   go_roundg k1
   case measure => have := HK1.out; omega
   case rel => exact ⟨(y190), (wrap64 ((wrap64 ((wrap64 (x1_1 + 1)) + 1)) + 1)), (wrap64 (x5_1 + 1)), z4_, z4_, H', ⟨z25_⟩, ⟨z6_⟩, ⟨z5_⟩, ⟨cb_⟩⟩
  ·obtain ⟨rfl, rfl⟩ := s2_ H
   obtain ⟨Ao15, co15, eo15⟩ := Kd.R_slice HO_0.out
   subst eo15
   go_wp2
   go_ret
   exact ⟨z2_, z6_, cb_, z5_⟩

/-! ### laws_markPairS: function 39 -/
def laws_markPairS.l0 : Nat → List (S92) → Int → Int → Option (Int × (List (S92)))
 | 0, _, _, _ => none
 | k + 1, x0, x1, x5 => if x5 < (x0.length : Int) then (if 0 ≤ x5 then ((some (x0.set (x5 : Int).toNat (⟨x1, (rd_T92 x0 x5).f1⟩ : S92) : List (S92))).bind fun y191 => (laws_markPairS.l0 k (y191.set (x5 : Int).toNat (⟨(rd_T92 y191 x5).f0, wrap64 (x1 + 1)⟩ : S92)) (wrap64 ((wrap64 (x1 + 1)) + 1)) (wrap64 (x5 + 1)))) else (none)) else (some (x1, x0))
def laws_markPairS.f (k : Nat) (l0 : List (S92)) (a1 : Int) : Option (Int × (List (S92))) := laws_markPairS.l0 k l0 a1 0
theorem laws_markPairS.mono_l : ∀ k, (∀ y0 y1 y2, LeO (laws_markPairS.l0 k y0 y1 y2) (laws_markPairS.l0 (k + 1) y0 y1 y2))
 | 0 => fun _ _ _ r h => by simp [laws_markPairS.l0] at h
 | k + 1 => by
  have ih0 := laws_markPairS.mono_l k
  ·intro y0 y1 y2
   unfold laws_markPairS.l0
   exact zm_
theorem laws_markPairS.mono : ∀ a0 a1 k, LeO (laws_markPairS.f k a0 a1) (laws_markPairS.f (k + 1) a0 a1) := by
 intro a0 a1 k
 have ih0 := laws_markPairS.mono_l k
 unfold laws_markPairS.f
 exact zm_
set_option maxHeartbeats 8000000 in
set_option maxRecDepth 100000 in
theorem laws_markPairS.calls (k : Nat) (P0_ : Nat → Prop) (u9000_ : Value) (l0 : List (S92)) (a1 : Int) (r1 : Int) (r2 : List (S92)) (w0 w : World) (hB : Below w0.heap.size w0 w) (ho0 : Kd.R k92 92 w w0.heap.size P0_ u9000_ l0) (h : laws_markPairS.f k l0 a1 = some (r1, r2)) :
  Calls Try.prog 39 #[u9000_, .int .i64 a1] w fun e w' => e = .returned (.int .i64 r1) ∧ Kd.R k92 92 w' w0.heap.size (fun k_ => (P0_ k_ ∨ w.heap.size ≤ k_)) u9000_ r2 ∧ Below w0.heap.size w0 w' ∧ Kept w w' (fun k_ => P0_ k_) := by
 have HO0 := q_ (show Kd.R k92 92 w w0.heap.size (fun k_ => (P0_ k_ ∨ w.heap.size ≤ k_)) u9000_ l0 from Kd.R_mono ho0 (fun k_ hk => (.inl hk)))
 have HK := q_ (Kept.refl w (fun k_ => P0_ k_))
 have HW0 := q_ hB.size
 have HB := q_ hB
 clear hB
 have H := h; clear h
 unfold laws_markPairS.f at H
 have H' := q_ H
 clear H
 go_enter Try.func39, Try.ntmps39
 go_wp2
 go_loopg [1, 5] k (fun kq v1 v5 w' => ∃ (x0_1 : List (S92)) (x1_1 : Int) (x5_1 : Int), v1 = .int .i64 x1_1 ∧ v5 = .int .i64 x5_1 ∧ Aside0 (laws_markPairS.l0 kq x0_1 x1_1 x5_1 = some (r1, r2)) ∧ Aside0 (kq ≤ k) ∧ Aside0 (Kd.R k92 92 w' w0.heap.size (fun k_ => (P0_ k_ ∨ w.heap.size ≤ k_)) u9000_ x0_1) ∧ Aside0 (Kept w w' (fun k_ => P0_ k_)) ∧ Aside0 (Below w0.heap.size w0 w'))
 case atStart => exact ⟨(l0), (a1), (0), z4_, z4_, H', ⟨Nat.le_refl _⟩, ⟨z24_⟩, ⟨z5_⟩, ⟨cb_⟩⟩
 case round =>
  clear H'
  try clear p2
  obtain ⟨x0_1, x1_1, x5_1, rfl, rfl, HA, HK1, HO_0, HK, HB⟩ := hrel
  obtain ⟨k1, rfl, H⟩ := rn_ (k := gk) HA (by rintro rfl; simp only [laws_markPairS.l0])
  clear HA
  simp only [laws_markPairS.l0] at H
  replace H := kd_ H; rcases H with ⟨c3b0, H⟩ | ⟨c3b0, H⟩
  ·replace H := kdn_ H; obtain ⟨c4b0, H⟩ := H
   obtain ⟨y191, hy_⟩ : ∃ y_ : List (S92), y_ = (x0_1.set (x5_1 : Int).toNat (⟨x1_1, (rd_T92 x0_1 x5_1).f1⟩ : S92)) := ⟨_, rfl⟩
   replace H : (laws_markPairS.l0 k1 (y191.set (x5_1 : Int).toNat (⟨(rd_T92 y191 x5_1).f0, wrap64 (x1_1 + 1)⟩ : S92)) (wrap64 ((wrap64 (x1_1 + 1)) + 1)) (wrap64 (x5_1 + 1))) = some (r1, r2) := z3_
   have Ny191 := q_ hy_
   clear hy_
   obtain ⟨y192, hy_⟩ : ∃ y_ : List (S92), y_ = (y191.set (x5_1 : Int).toNat (⟨(rd_T92 y191 x5_1).f0, wrap64 (x1_1 + 1)⟩ : S92)) := ⟨_, rfl⟩
   replace H : (laws_markPairS.l0 k1 y192 (wrap64 ((wrap64 (x1_1 + 1)) + 1)) (wrap64 (x5_1 + 1))) = some (r1, r2) := z3_
   have Ny192 := q_ hy_
   clear hy_
   have H' := q_ H
   clear H
   obtain ⟨Ao7, co7, eo7⟩ := Kd.R_slice HO_0.out
   subst eo7
   have p5 : 0 ≤ (x5_1 : Int) := of_decide_eq_true z1_
   have q5 : (x5_1 : Int) < ((x0_1.length : Int) : Int) := of_decide_eq_true z1_
   obtain ⟨go5, co5, eo5, gb5, gl5, cl5, HG5⟩ := Kd.R_form HO_0.out (by omega)
   (first | cases eo5 | (injection eo5 with ea_ en_ ec_; (first | subst ea_ | (injection ea_ with ea_; subst ea_)); subst ec_; clear en_))
   have GB5 := q_ gb5
   have GG5 := q_ HG5
   clear gb5 gl5 HG5
   have HMgo5 := q_ (show (P0_ go5 ∨ w.heap.size ≤ go5) from (HO_0.out.1 _ rfl))
   obtain ⟨ce5, hcl5, hM5, hcc5, hfr5⟩ := Kd.R_elem HO_0.out z92 (x5_1 : Int) p5 q5
   obtain rfl := k92_openM hM5
   have hx5_0 : wr.cell? ⟨go5, (x5_1 : Int).toNat * 2, none⟩ = some (.int .i64 ((rd_T92 x0_1 x5_1).f0)) := hcc5 0 _ rfl
   have hx5_1 : wr.cell? ⟨go5, (x5_1 : Int).toNat * 2 + 1, none⟩ = some (.int .i64 ((rd_T92 x0_1 x5_1).f1)) := hcc5 1 _ rfl
   have hf5_0 : wr.frozen? ⟨go5, (x5_1 : Int).toNat * 2, none⟩ = false := hfr5 0
   have hf5_1 : wr.frozen? ⟨go5, (x5_1 : Int).toNat * 2 + 1, none⟩ = false := hfr5 1
   clear hcl5 hcc5 hfr5 hM5
   replace p5 := eq_true p5
   replace q5 := eq_true q5
   have HX8 := q_ (show Kd.R k92 92 wr w0.heap.size (fun k_ => (P0_ k_ ∨ w.heap.size ≤ k_)) (.slice (some ⟨go5, 0, none⟩) x0_1.length co7) x0_1 from z6_)
   obtain ⟨ce8, hcl8, hM8, hcc8, hfr8⟩ := Kd.R_elem HX8.out z92 (x5_1 : Int) (of_decide_eq_true z1_) z90_
   obtain rfl := k92_openM hM8
   have HP8 := Kd.R_seg HX8.out (x5_1 : Int) (of_decide_eq_true z1_) z90_ (seg := [.int .i64 x1_1]) (j := 0) hcl8 hcc8 (show 1 ≤ 2 from by decide) (x' := (⟨x1_1, (rd_T92 x0_1 x5_1).f1⟩ : S92)) (k92_mkM _ _ _ (⟨x1_1, (rd_T92 x0_1 x5_1).f1⟩ : S92) ) (fun _ hk => hk)
   have hx8_0 := hcc8 0 _ rfl
   (try simp only [show (k92).sz = 2 from rfl, Nat.mul_one, Nat.add_zero] at hx8_0)
   have hf8_0 := hfr8 0
   (try simp only [show (k92).sz = 2 from rfl, Nat.mul_one, Nat.add_zero] at hf8_0)
   clear hcl8 hcc8 hfr8 hM8
   go_wp2_with (first | ((with_reducible refine gate_store (t := 3) (p := 16) rfl ?_); refine store_event (t := 3) (p := 16) (v := ?vo_w9) (w1 := (wr.setCell ⟨go5, (x5_1 : Int).toNat * 2, none⟩ (.int .i64 x1_1))) ?hg ?ho ?hn ?hr ?_; (case ho => rfl); (case hg => rfl); (case hn => rfl); (case hr => exact z95_); intro w9 hw; have hg : wr.grownBy w9 (some go5) := (by rw [hw]; exact HP8.2); have hp_ : Kd.R k92 92 w9 w0.heap.size (fun k_ => (P0_ k_ ∨ w.heap.size ≤ k_)) (.slice (some ⟨go5, 0, none⟩) x0_1.length co7) y191 := (by rw [hw, Ny191.out]; exact HP8.1); clear HP8; replace HB := q_ ((z46_ : Below w0.heap.size w0 w9)); replace HK := q_ (Kept.of_grown (S := (fun k_ => P0_ k_)) hg z5_ (fun k_ e_ => (HO_0.out.1 k_ e_))); replace HO_0 := q_ (hp_); clear hg hw hp_; have p6 : 0 ≤ (x5_1 : Int) := of_decide_eq_true z1_; have q6 : (x5_1 : Int) < ((x0_1.length : Int) : Int) := of_decide_eq_true z1_; obtain ⟨ce6, hcl6, hM6, hcc6, hfr6⟩ := Kd.R_elem HO_0.out z92 (x5_1 : Int) p6 q6; obtain rfl := k92_openM hM6; have hx6_0 : w9.cell? ⟨go5, (x5_1 : Int).toNat * 2, none⟩ = some (.int .i64 ((rd_T92 y191 x5_1).f0)) := hcc6 0 _ rfl; have hx6_1 : w9.cell? ⟨go5, (x5_1 : Int).toNat * 2 + 1, none⟩ = some (.int .i64 ((rd_T92 y191 x5_1).f1)) := hcc6 1 _ rfl; have hf6_0 : w9.frozen? ⟨go5, (x5_1 : Int).toNat * 2, none⟩ = false := hfr6 0; have hf6_1 : w9.frozen? ⟨go5, (x5_1 : Int).toNat * 2 + 1, none⟩ = false := hfr6 1; clear hcl6 hcc6 hfr6 hM6; replace p6 := eq_true p6; replace q6 := eq_true q6; have HX10 := q_ (show Kd.R k92 92 w9 w0.heap.size (fun k_ => (P0_ k_ ∨ w.heap.size ≤ k_)) (.slice (some ⟨go5, 0, none⟩) x0_1.length co7) y191 from z6_); obtain ⟨ce10, hcl10, hM10, hcc10, hfr10⟩ := Kd.R_elem HX10.out z92 (x5_1 : Int) (of_decide_eq_true z1_) z90_; obtain rfl := k92_openM hM10; have HP10 := Kd.R_seg HX10.out (x5_1 : Int) (of_decide_eq_true z1_) z90_ (seg := [.int .i64 (wrap64 (x1_1 + 1))]) (j := 1) hcl10 hcc10 (show 2 ≤ 2 from by decide) (x' := (⟨(rd_T92 y191 x5_1).f0, wrap64 (x1_1 + 1)⟩ : S92)) (k92_mkM _ _ _ (⟨(rd_T92 y191 x5_1).f0, wrap64 (x1_1 + 1)⟩ : S92) ) (fun _ hk => hk); have hx10_1 := hcc10 1 _ rfl; (try simp only [show (k92).sz = 2 from rfl, Nat.mul_one, Nat.add_zero] at hx10_1); have hf10_1 := hfr10 1; (try simp only [show (k92).sz = 2 from rfl, Nat.mul_one, Nat.add_zero] at hf10_1); clear hcl10 hcc10 hfr10 hM10) | ((with_reducible refine gate_store (t := 3) (p := 23) rfl ?_); refine store_event (t := 3) (p := 23) (v := ?vo_w11) (w1 := (w9.setCell ⟨go5, (x5_1 : Int).toNat * 2 + 1, none⟩ (.int .i64 (wrap64 (x1_1 + 1))))) ?hg ?ho ?hn ?hr ?_; (case ho => rfl); (case hg => rfl); (case hn => rfl); (case hr => exact z95_); intro w11 hw; have hg : w9.grownBy w11 (some go5) := (by rw [hw]; exact HP10.2); have hp_ : Kd.R k92 92 w11 w0.heap.size (fun k_ => (P0_ k_ ∨ w.heap.size ≤ k_)) (.slice (some ⟨go5, 0, none⟩) x0_1.length co7) y192 := (by rw [hw, Ny192.out]; exact HP10.1); clear HP10; replace HB := q_ ((z46_ : Below w0.heap.size w0 w11)); replace HK := q_ (Kept.of_grown (S := (fun k_ => P0_ k_)) hg z5_ (fun k_ e_ => (HO_0.out.1 k_ e_))); replace HO_0 := q_ (hp_); clear hg hw hp_))
   go_roundg k1
   case measure => have := HK1.out; omega
   case rel => exact ⟨(y192), (wrap64 ((wrap64 (x1_1 + 1)) + 1)), (wrap64 (x5_1 + 1)), z4_, z4_, H', ⟨z25_⟩, ⟨z6_⟩, ⟨z5_⟩, ⟨cb_⟩⟩
  ·obtain ⟨rfl, rfl⟩ := s2_ H
   obtain ⟨Ao12, co12, eo12⟩ := Kd.R_slice HO_0.out
   subst eo12
   go_wp2
   go_ret
   exact ⟨z2_, z6_, cb_, z5_⟩

end Go.Proofs.Ytfnndcpaldkkoaa.PFnExactTreeRange
