-- Written by a program of this session, which goes by the kit's print. Not trusted: Lean checks it.
import Derived.Test.YtphlmbhjeoljoaaPFnExactSomex0
import Derived.Test.YtphlmbhjeoljoaaPFnExactSomex3
namespace Go.Proofs.Ytphlmbhjeoljoaa.PFnExactSome
open Go.RowKit Go.Proofs.YtphlmbhjeoljoaaW.PrintWords Go.Proofs.YtphlmbhjeoljoaaW.PrintLast Go.Proofs.YtphlmbhjeoljoaaW.PrintMore
attribute [local go_sem] max2_int min2_int max_two min_two max_three min_three max_four min_four   -- for this text's walks alone
set_option linter.unusedVariables false
set_option linter.unusedSimpArgs false

/-! ### laws_heldStringS: function 157 -/
def laws_heldStringS.l0 : Nat → List ByteArray → Int → Int → Option (Int)
 | 0, _, _, _ => none
 | k + 1, x0, x1, x5 => if x5 < (x0.length : Int) then (if 0 ≤ x5 then ((laws_markText.f k x1).bind fun t181 => (if (rdOf ByteArray.empty x0 x5).toList = t181.toList then (laws_heldStringS.l0 k x0 (wrap64 (x1 + 1)) (wrap64 (x5 + 1))) else (some (-1)))) else (none)) else (some x1)
def laws_heldStringS.f (k : Nat) (l0 : List ByteArray) (a1 : Int) : Option (Int) := laws_heldStringS.l0 k l0 a1 0
theorem laws_heldStringS.mono_l : ∀ k, (∀ y0 y1 y2, LeO (laws_heldStringS.l0 k y0 y1 y2) (laws_heldStringS.l0 (k + 1) y0 y1 y2))
 | 0 => fun _ _ _ r h => by simp [laws_heldStringS.l0] at h
 | k + 1 => by
  have ih0 := laws_heldStringS.mono_l k
  ·intro y0 y1 y2
   unfold laws_heldStringS.l0
   repeat' first
   | (with_reducible exact ih0 _ _ _)
   | (with_reducible exact laws_markText.mono _ _)
   | (with_reducible exact LeO.refl _)
   | (with_reducible exact LeO.none _)
   | (with_reducible refine LeO.ite ?_ ?_)
   | (with_reducible refine LeO.bind ?_ (fun _ => ?_))
   | exact ih0 _ _ _
   | exact laws_markText.mono _ _
   | exact LeO.none _
   | refine LeO.ite ?_ ?_
   | refine LeO.bind ?_ (fun _ => ?_)
theorem laws_heldStringS.mono : ∀ a0 a1 k, LeO (laws_heldStringS.f k a0 a1) (laws_heldStringS.f (k + 1) a0 a1) := by
 intro a0 a1 k
 have ih0 := laws_heldStringS.mono_l k
 unfold laws_heldStringS.f
 repeat' first
   | (with_reducible exact ih0 _ _ _)
   | (with_reducible exact laws_markText.mono _ _)
   | (with_reducible exact LeO.refl _)
   | (with_reducible exact LeO.none _)
   | (with_reducible refine LeO.ite ?_ ?_)
   | (with_reducible refine LeO.bind ?_ (fun _ => ?_))
   | exact ih0 _ _ _
   | exact laws_markText.mono _ _
   | exact LeO.none _
   | refine LeO.ite ?_ ?_
   | refine LeO.bind ?_ (fun _ => ?_)
set_option maxHeartbeats 8000000 in
set_option maxRecDepth 100000 in
theorem laws_heldStringS.calls (k : Nat) (A0 : Option Addr) (c0 : Nat) (l0 : List ByteArray) (a1 : Int) (r : Int) (w : World) (hr0 : Kd.C Kd.string w A0 l0.length l0) (hc0 : l0.length ≤ c0) (h : laws_heldStringS.f k l0 a1 = some r) :
  Calls Try.prog 157 #[.slice A0 l0.length c0, .int .i64 a1] w fun e w' => e = .returned (.int .i64 r) ∧ Below w.heap.size w w' := by
 have HR0 := q_ hr0
 have HC0 := q_ hc0
 clear hr0 hc0
 have HB := q_ (Below.refl w.heap.size w)
 have H : (laws_heldStringS.l0 k l0 a1 0) = some r := h
 clear h
 have H' := q_ H
 clear H
 go_enter Try.func157, Try.ntmps157
 go_wp2
 go_loopg [1, 5] k (fun kq v1 v5 w' => ∃ (x1_1 : Int) (x5_1 : Int), v1 = .int .i64 x1_1 ∧ v5 = .int .i64 x5_1 ∧ Aside0 (laws_heldStringS.l0 kq l0 x1_1 x5_1 = some r) ∧ Aside0 (kq ≤ k) ∧ Aside0 (Below w.heap.size w w'))
 case atStart => exact ⟨(a1), (0), z14_, z14_, H', ⟨Nat.le_refl _⟩, ⟨z0_⟩⟩
 case round =>
  clear H'
  try clear c1
  try clear p2
  obtain ⟨x1_1, x5_1, rfl, rfl, HA, HK1, HB⟩ := hrel
  cases gk with
  | zero => exact absurd HA.out (by simp [laws_heldStringS.l0])
  | succ k1 =>
   have H := HA.out
   clear HA
   simp only [laws_heldStringS.l0] at H
   by_cases c3 : x5_1 < (l0.length : Int)
   ·rw [if_pos c3] at H
    have c3b0 : decide (x5_1 < (l0.length : Int)) = true := decide_eq_true c3
    clear c3
    by_cases c4 : 0 ≤ x5_1
    ·rw [if_pos c4] at H
     have c4b0 : decide (0 ≤ x5_1) = true := decide_eq_true c4
     clear c4
     replace H := Option.bind_eq_some_iff.mp H
     obtain ⟨t181, A50, H⟩ := H
     replace H : (if (rdOf ByteArray.empty l0 x5_1).toList = t181.toList then (laws_heldStringS.l0 k1 l0 (wrap64 (x1_1 + 1)) (wrap64 (x5_1 + 1))) else (some (-1))) = some r := H
     have A5 := q_ A50
     clear A50
     have HC6 := q_ H
     clear H
     try go_wp2
     replace HB := q_ (below_drew1 HB.out)
     have p180 : 0 ≤ (x5_1 : Int) := of_decide_eq_true z1_
     have q180 : x5_1 < (l0.length : Int) := of_decide_eq_true z1_
     obtain ⟨ad180, e180, hx180_0⟩ := Kd.at_string HR0.out x5_1 p180 q180
     have hw180_0 := hx180_0
     cases e180
     replace hx180_0 := up_ HB hx180_0
     replace p180 := eq_true p180
     replace q180 := eq_true q180
     refine start_ (n := 7) (S := fun w' => w'.cell? (ad180.add (x5_1).toNat) = some (.string (rdOf ByteArray.empty l0 x5_1))) (ds := []) (tf 0 7) (by kernel_rfl) rfl rfl (((HB.out.cell (World.block_lt_of_cell? w _ hw180_0)).trans hw180_0)) (fun hHeld => ?_)
     generalize wr.drew = w7 at HB hx180_0 hHeld ⊢
     refine pure_ (i := 0) (N := some 12) (v := ?_) (a' := ?_) (tf 1 6) rfl rfl (by kernel_rfl) (fun _ _ _ h => h) (Or.inl ⟨by rfl, ?_⟩) ?_ ?_
     rotate_left
     ·intro w'
      go_simp
      with_reducible rfl
     rotate_left
     ·simp only [Act.put, List.setIfInBounds_toArray, List.set_cons_zero, List.set_cons_succ, i64_w, i32_w]
      rfl
     refine pure_ (i := 1) (N := some 13) (v := ?_) (a' := ?_) (tf 2 5) rfl rfl (by kernel_rfl) (fun _ _ _ h => h) (Or.inl ⟨by rfl, ?_⟩) ?_ ?_
     rotate_left
     ·intro w'
      go_simp
      with_reducible rfl
     rotate_left
     ·simp only [Act.put, List.setIfInBounds_toArray, List.set_cons_zero, List.set_cons_succ, i64_w, i32_w]
      rfl
     refine pure_ (i := 2) (N := some 14) (v := ?_) (a' := ?_) (tf 3 4) rfl rfl (by kernel_rfl) (fun _ _ _ h => h) (Or.inl ⟨by rfl, ?_⟩) ?_ ?_
     rotate_left
     ·intro w'
      go_simp
      with_reducible rfl
     rotate_left
     ·simp only [Act.put, List.setIfInBounds_toArray, List.set_cons_zero, List.set_cons_succ, i64_w, i32_w]
      rfl
     refine pure_ (i := 4) (N := some 16) (v := ?_) (a' := ?_) #[true, true, true, false, true, false, false] rfl rfl (by kernel_rfl) (fun _ _ _ h => h) (Or.inl ⟨by rfl, ?_⟩) ?_ ?_
     rotate_left
     ·intro w'
      go_simp
      with_reducible rfl
     rotate_left
     ·simp only [Act.put, List.setIfInBounds_toArray, List.set_cons_zero, List.set_cons_succ, i64_w, i32_w]
      rfl
     refine take_ (i := 3) (N := some 15) (v := ?_) (a' := ?_) (tf 5 2) rfl rfl (by kernel_rfl) (fun _ _ _ h => h) (Or.inl ⟨by rfl, ?_⟩) hHeld ?_ ?_
     rotate_left
     ·intro w' s0
      go_simp
      with_reducible rfl
     rotate_left
     ·simp only [Act.put, List.setIfInBounds_toArray, List.set_cons_zero, List.set_cons_succ, i64_w, i32_w]
      rfl
     refine one_ (i := 5) (N := some 17) (tf 6 1) rfl rfl (by kernel_rfl) (by decide) (fun K hK => ?_)
     refine goes_ Try.func156 (by kernel_rfl) rfl #[.int .i64 x1_1] (by rfl) rfl rfl z2_ ?_
     with_reducible refine (laws_markText.calls k1 x1_1 t181 _ A5.out).mono ?_
     rintro e w8 ⟨rfl, hb⟩
     refine ⟨_, rfl, ?_⟩
     replace HB := q_ (below_step z0_ hb)
     (try clear hb)
     (try clear hb2)
     (try clear hk)
     (try clear hi)
     refine hK.out _ _ (((HB.out.cell (World.block_lt_of_cell? w _ hw180_0)).trans hw180_0)) (fun hHeld => ?_)
     clear hK K
     refine norm_ (a' := ?_) ?_ ?_
     rotate_left
     ·show Act.put _ (some 17) _ = _
      simp only [Act.put, List.setIfInBounds_toArray, List.set_cons_zero, List.set_cons_succ, i64_w, i32_w]
      rfl
     refine pure_ (i := 6) (N := some 18) (v := ?_) (a' := ?_) (tf 7 0) rfl rfl (by kernel_rfl) (fun _ _ _ h => h) (Or.inl ⟨by rfl, ?_⟩) ?_ ?_
     rotate_left
     ·intro w'
      go_simp
      with_reducible rfl
     rotate_left
     ·simp only [Act.put, List.setIfInBounds_toArray, List.set_cons_zero, List.set_cons_succ, i64_w, i32_w]
      rfl
     refine done_ (by kernel_rfl) ?_
     go_upto_if 18 with (fail)
     have H := HC6.out
     clear HC6
     by_cases c9 : (rdOf ByteArray.empty l0 x5_1).toList = t181.toList
     ·rw [if_pos c9] at H
      have c9b0 : ((rdOf ByteArray.empty l0 x5_1).toList == t181.toList) = true := beq_iff_eq.mpr c9
      have c9b1 : ((rdOf ByteArray.empty l0 x5_1).toList != t181.toList) = false := bne_eq_false_iff_eq.mpr c9
      clear c9
      (first | rw [c9b0] | rw [c9b1] | (simp only [i64_w, i32_w]; first | rw [c9b0] | rw [c9b1]) | rw [c9b2] | skip)
      have H' := q_ H
      clear H
      go_wp2
      go_roundg k1
      case measure => have := HK1.out; omega
      case rel => exact ⟨(wrap64 (x1_1 + 1)), (wrap64 (x5_1 + 1)), z14_, z14_, H', ⟨z70_⟩, ⟨z0_⟩⟩
     ·rw [if_neg c9] at H
      have c9b0 : ((rdOf ByteArray.empty l0 x5_1).toList == t181.toList) = false := beq_eq_false_iff_ne.mpr c9
      have c9b1 : ((rdOf ByteArray.empty l0 x5_1).toList != t181.toList) = true := bne_iff_ne.mpr c9
      (first | rw [c9b0] | rw [c9b1] | (simp only [i64_w, i32_w]; first | rw [c9b0] | rw [c9b1]) | rw [c9b2] | skip)
      obtain rfl := Option.some.inj H
      go_wp2
      go_ret
      exact ⟨z4_, z0_⟩
    ·rw [if_neg c4] at H
     exact absurd H (by simp)
   ·rw [if_neg c3] at H
    have c3b0 : decide (x5_1 < (l0.length : Int)) = false := decide_eq_false c3
    clear c3
    obtain rfl := Option.some.inj H
    go_wp2
    go_ret
    exact ⟨z4_, z0_⟩

/-! ### laws_heldSuperS: function 158 -/
def laws_heldSuperS.l0 : Nat → List (S166) → Int → Int → Option (Int)
 | 0, _, _, _ => none
 | k + 1, x0, x1, x5 => if x5 < (x0.length : Int) then (if 0 ≤ x5 then (if ((rd_T166 x0 x5).f0) = x1 then (if ((rd_T166 x0 x5).f1) = (wrap64 (x1 + 1)) then (laws_heldSuperS.l0 k x0 (wrap64 ((wrap64 (x1 + 1)) + 1)) (wrap64 (x5 + 1))) else (some (-1))) else (some (-1))) else (none)) else (some x1)
def laws_heldSuperS.f (k : Nat) (l0 : List (S166)) (a1 : Int) : Option (Int) := laws_heldSuperS.l0 k l0 a1 0
theorem laws_heldSuperS.mono_l : ∀ k, (∀ y0 y1 y2, LeO (laws_heldSuperS.l0 k y0 y1 y2) (laws_heldSuperS.l0 (k + 1) y0 y1 y2))
 | 0 => fun _ _ _ r h => by simp [laws_heldSuperS.l0] at h
 | k + 1 => by
  have ih0 := laws_heldSuperS.mono_l k
  ·intro y0 y1 y2
   unfold laws_heldSuperS.l0
   repeat' first
   | (with_reducible exact ih0 _ _ _)
   | (with_reducible exact LeO.refl _)
   | (with_reducible exact LeO.none _)
   | (with_reducible refine LeO.ite ?_ ?_)
   | (with_reducible refine LeO.bind ?_ (fun _ => ?_))
   | exact ih0 _ _ _
   | exact LeO.none _
   | refine LeO.ite ?_ ?_
   | refine LeO.bind ?_ (fun _ => ?_)
theorem laws_heldSuperS.mono : ∀ a0 a1 k, LeO (laws_heldSuperS.f k a0 a1) (laws_heldSuperS.f (k + 1) a0 a1) := by
 intro a0 a1 k
 have ih0 := laws_heldSuperS.mono_l k
 unfold laws_heldSuperS.f
 repeat' first
   | (with_reducible exact ih0 _ _ _)
   | (with_reducible exact LeO.refl _)
   | (with_reducible exact LeO.none _)
   | (with_reducible refine LeO.ite ?_ ?_)
   | (with_reducible refine LeO.bind ?_ (fun _ => ?_))
   | exact ih0 _ _ _
   | exact LeO.none _
   | refine LeO.ite ?_ ?_
   | refine LeO.bind ?_ (fun _ => ?_)
set_option maxHeartbeats 8000000 in
set_option maxRecDepth 100000 in
theorem laws_heldSuperS.calls (k : Nat) (A0 : Option Addr) (c0 : Nat) (l0 : List (S166)) (a1 : Int) (r : Int) (w : World) (hr0 : Kd.C k166 w A0 l0.length l0) (hc0 : l0.length ≤ c0) (h : laws_heldSuperS.f k l0 a1 = some r) :
  Calls Try.prog 158 #[.slice A0 l0.length c0, .int .i64 a1] w fun e w' => e = .returned (.int .i64 r) ∧ Drawn0 w w' := by
 have HR0 := q_ hr0
 have HC0 := q_ hc0
 clear hr0 hc0
 have H : (laws_heldSuperS.l0 k l0 a1 0) = some r := h
 clear h
 have H' := q_ H
 clear H
 go_enter Try.func158, Try.ntmps158
 go_wp2
 go_loopg [1, 5] k (fun kq v1 v5 w' => ∃ (x1_1 : Int) (x5_1 : Int), v1 = .int .i64 x1_1 ∧ v5 = .int .i64 x5_1 ∧ Aside0 (laws_heldSuperS.l0 kq l0 x1_1 x5_1 = some r) ∧ Aside0 (kq ≤ k) ∧ Drawn0 w w')
 case atStart => exact ⟨(a1), (0), z14_, z14_, H', ⟨Nat.le_refl _⟩, z36_⟩
 case round =>
  clear H'
  try clear c1
  try clear p2
  obtain ⟨x1_1, x5_1, rfl, rfl, HA, HK1, ⟨m1, rfl⟩⟩ := hrel
  cases gk with
  | zero => exact absurd HA.out (by simp [laws_heldSuperS.l0])
  | succ k1 =>
   have H := HA.out
   clear HA
   simp only [laws_heldSuperS.l0] at H
   by_cases c3 : x5_1 < (l0.length : Int)
   ·rw [if_pos c3] at H
    have c3b0 : decide (x5_1 < (l0.length : Int)) = true := decide_eq_true c3
    clear c3
    by_cases c4 : 0 ≤ x5_1
    ·rw [if_pos c4] at H
     have c4b0 : decide (0 ≤ x5_1) = true := decide_eq_true c4
     clear c4
     by_cases c5 : ((rd_T166 l0 x5_1).f0) = x1_1
     ·rw [if_pos c5] at H
      have c5b0 : (((rd_T166 l0 x5_1).f0) == x1_1) = true := beq_iff_eq.mpr c5
      have c5b1 : (((rd_T166 l0 x5_1).f0) != x1_1) = false := bne_eq_false_iff_eq.mpr c5
      clear c5
      by_cases c6 : ((rd_T166 l0 x5_1).f1) = (wrap64 (x1_1 + 1))
      ·rw [if_pos c6] at H
       have c6b0 : (((rd_T166 l0 x5_1).f1) == (wrap64 (x1_1 + 1))) = true := beq_iff_eq.mpr c6
       have c6b1 : (((rd_T166 l0 x5_1).f1) != (wrap64 (x1_1 + 1))) = false := bne_eq_false_iff_eq.mpr c6
       clear c6
       have H' := q_ H
       clear H
       have p182 : 0 ≤ (x5_1 : Int) := of_decide_eq_true z1_
       have q182 : x5_1 < (l0.length : Int) := of_decide_eq_true z1_
       obtain ⟨ad182, e182, hx182_0, hx182_1⟩ := at_T166 HR0.out x5_1 p182 q182
       cases e182
       replace p182 := eq_true p182
       replace q182 := eq_true q182
       have p183 : 0 ≤ (x5_1 : Int) := of_decide_eq_true z1_
       have q183 : x5_1 < (l0.length : Int) := of_decide_eq_true z1_
       obtain ⟨ad183, e183, hx183_0, hx183_1⟩ := at_T166 HR0.out x5_1 p183 q183
       obtain rfl : ad182 = ad183 := (by injection e183)
       replace p183 := eq_true p183
       replace q183 := eq_true q183
       go_wp2
       go_roundg k1
       case measure => have := HK1.out; omega
       case rel => exact ⟨(wrap64 ((wrap64 (x1_1 + 1)) + 1)), (wrap64 (x5_1 + 1)), z14_, z14_, H', ⟨z70_⟩, z36_⟩
      ·rw [if_neg c6] at H
       have c6b0 : (((rd_T166 l0 x5_1).f1) == (wrap64 (x1_1 + 1))) = false := beq_eq_false_iff_ne.mpr c6
       have c6b1 : (((rd_T166 l0 x5_1).f1) != (wrap64 (x1_1 + 1))) = true := bne_iff_ne.mpr c6
       obtain rfl := Option.some.inj H
       have p182 : 0 ≤ (x5_1 : Int) := of_decide_eq_true z1_
       have q182 : x5_1 < (l0.length : Int) := of_decide_eq_true z1_
       obtain ⟨ad182, e182, hx182_0, hx182_1⟩ := at_T166 HR0.out x5_1 p182 q182
       cases e182
       replace p182 := eq_true p182
       replace q182 := eq_true q182
       have p183 : 0 ≤ (x5_1 : Int) := of_decide_eq_true z1_
       have q183 : x5_1 < (l0.length : Int) := of_decide_eq_true z1_
       obtain ⟨ad183, e183, hx183_0, hx183_1⟩ := at_T166 HR0.out x5_1 p183 q183
       obtain rfl : ad182 = ad183 := (by injection e183)
       replace p183 := eq_true p183
       replace q183 := eq_true q183
       go_wp2
       go_ret
       exact ⟨z14_, z36_⟩
     ·rw [if_neg c5] at H
      have c5b0 : (((rd_T166 l0 x5_1).f0) == x1_1) = false := beq_eq_false_iff_ne.mpr c5
      have c5b1 : (((rd_T166 l0 x5_1).f0) != x1_1) = true := bne_iff_ne.mpr c5
      obtain rfl := Option.some.inj H
      have p182 : 0 ≤ (x5_1 : Int) := of_decide_eq_true z1_
      have q182 : x5_1 < (l0.length : Int) := of_decide_eq_true z1_
      obtain ⟨ad182, e182, hx182_0, hx182_1⟩ := at_T166 HR0.out x5_1 p182 q182
      cases e182
      replace p182 := eq_true p182
      replace q182 := eq_true q182
      go_wp2
      go_ret
      exact ⟨z14_, z36_⟩
    ·rw [if_neg c4] at H
     exact absurd H (by simp)
   ·rw [if_neg c3] at H
    have c3b0 : decide (x5_1 < (l0.length : Int)) = false := decide_eq_false c3
    clear c3
    obtain rfl := Option.some.inj H
    go_wp2
    go_ret
    exact ⟨z14_, z36_⟩

/-! ### laws_heldDisk: function 80 -/
def laws_heldDisk.f (k : Nat) (l0_0 : List ByteArray) (l0_1 : List (S166)) (a1 : Int) : Option (Int) := (laws_heldStringS.f k l0_0 a1).bind fun t185 => (if t185 < 0 then (some (-1)) else ((laws_heldSuperS.f k l0_1 t185).bind fun t186 => (if t186 < 0 then (some (-1)) else (some t186))))
theorem laws_heldDisk.mono : ∀ a0 a1 a2 k, LeO (laws_heldDisk.f k a0 a1 a2) (laws_heldDisk.f (k + 1) a0 a1 a2) := by
 intro a0 a1 a2 k
 unfold laws_heldDisk.f
 repeat' first
   | (with_reducible exact laws_heldStringS.mono _ _ _)
   | (with_reducible exact laws_heldSuperS.mono _ _ _)
   | (with_reducible exact LeO.refl _)
   | (with_reducible exact LeO.none _)
   | (with_reducible refine LeO.ite ?_ ?_)
   | (with_reducible refine LeO.bind ?_ (fun _ => ?_))
   | exact laws_heldStringS.mono _ _ _
   | exact laws_heldSuperS.mono _ _ _
   | exact LeO.none _
   | refine LeO.ite ?_ ?_
   | refine LeO.bind ?_ (fun _ => ?_)
set_option maxHeartbeats 8000000 in
set_option maxRecDepth 100000 in
theorem laws_heldDisk.calls (k : Nat) (A0_0 : Option Addr) (c0_0 : Nat) (l0_0 : List ByteArray) (A0_1 : Option Addr) (c0_1 : Nat) (l0_1 : List (S166)) (a1 : Int) (r : Int) (w : World) (hr0_0 : Kd.C Kd.string w A0_0 l0_0.length l0_0) (hc0_0 : l0_0.length ≤ c0_0) (hr0_1 : Kd.C k166 w A0_1 l0_1.length l0_1) (hc0_1 : l0_1.length ≤ c0_1) (h : laws_heldDisk.f k l0_0 l0_1 a1 = some r) :
  Calls Try.prog 80 #[.agg #[.slice A0_0 l0_0.length c0_0, .slice A0_1 l0_1.length c0_1], .int .i64 a1] w fun e w' => e = .returned (.int .i64 r) ∧ Below w.heap.size w w' := by
 have hu95 := Try.underlying95
 have HR0_0 := q_ hr0_0
 have HC0_0 := q_ hc0_0
 clear hr0_0 hc0_0
 have HR0_1 := q_ hr0_1
 have HC0_1 := q_ hc0_1
 clear hr0_1 hc0_1
 have HB := q_ (Below.refl w.heap.size w)
 have H : ((laws_heldStringS.f k l0_0 a1).bind fun t185 => (if t185 < 0 then (some (-1)) else ((laws_heldSuperS.f k l0_1 t185).bind fun t186 => (if t186 < 0 then (some (-1)) else (some t186))))) = some r := h
 clear h
 replace H := Option.bind_eq_some_iff.mp H
 obtain ⟨t185, A30, H⟩ := H
 replace H : (if t185 < 0 then (some (-1)) else ((laws_heldSuperS.f k l0_1 t185).bind fun t186 => (if t186 < 0 then (some (-1)) else (some t186)))) = some r := H
 have A3 := q_ A30
 clear A30
 have HC4 := q_ H
 clear H
 go_enter Try.func80, Try.ntmps80
 go_upto_if 10 with (first | ((with_reducible refine gate_dst (N := 2) rfl ?_); refine box_event ?hg (N := 2) ?hd (cs := #[.slice A0_0 l0_0.length c0_0, .slice A0_1 l0_1.length c0_1]) (t := 95) ?hr ?_; (case hd => rfl); (case hg => rfl); (case hr => exact z177_); intro gb184 hg w5 hbox hb; have BK184 := q_ (hbox); have GW184 := q_ ((z141_ : w.heap.size ≤ gb184)); have GE184 := q_ ((z141_ : w.heap.size ≤ gb184)); replace HB := q_ (below_step z0_ hb); clear hb hbox hg; obtain ⟨hcz6_0, hcz6_1, hfz6_0, hfz6_1⟩ := cs2_ BK184.out) | ((with_reducible refine gate_callee (f := 157) rfl ?_); refine goesL_ (some 8) rfl rfl Try.func157 (by kernel_rfl) rfl #[.slice A0_0 l0_0.length c0_0, .int .i64 a1] rfl z2_ ?_; (with_reducible refine (laws_heldStringS.calls k _ _ l0_0 a1 t185 _ ?side1 ?side2 A3.out).mono ?_); (case side1 => exact z178_); (case side2 => exact HC0_0.out); rintro e w7 ⟨rfl, hb⟩; refine ⟨_, rfl, ?_⟩; replace BK184 := q_ (blk_below (g := gb184) (o := .cells #[.slice A0_0 l0_0.length c0_0, .slice A0_1 l0_1.length c0_1] 95 (0, 0)) (by (with_reducible repeat (first | refine blk_drewN ?_ _ | refine blk_drew ?_ | refine blk_alloc ?_ _)); exact BK184.out) hb); replace HB := q_ (below_step z75_ hb); (try clear hb); (try clear hb2); (try clear hk); (try clear hi)))
 (try simp only [Act.put, List.setIfInBounds_toArray, List.set_cons_zero, List.set_cons_succ])
 have H := HC4.out
 clear HC4
 by_cases c8 : t185 < 0
 ·rw [if_pos c8] at H
  have c8b0 : decide (t185 < 0) = true := decide_eq_true c8
  clear c8
  (first | rw [c8b0] | rw [c8b1] | (simp only [i64_w, i32_w]; first | rw [c8b0] | rw [c8b1]) | rw [c8b2] | skip)
  obtain rfl := Option.some.inj H
  go_wp2
  go_ret
  exact ⟨z4_, z75_⟩
 ·rw [if_neg c8] at H
  have c8b0 : decide (t185 < 0) = false := decide_eq_false c8
  clear c8
  (first | rw [c8b0] | rw [c8b1] | (simp only [i64_w, i32_w]; first | rw [c8b0] | rw [c8b1]) | rw [c8b2] | skip)
  replace H := Option.bind_eq_some_iff.mp H
  obtain ⟨t186, A90, H⟩ := H
  replace H : (if t186 < 0 then (some (-1)) else (some t186)) = some r := H
  have A9 := q_ A90
  clear A90
  have HC10 := q_ H
  clear H
  obtain ⟨hcz11_0, hcz11_1, hfz11_0, hfz11_1⟩ := cs2_ BK184.out
  go_upto_if 16 with (first | ((with_reducible refine gate_callee (f := 158) rfl ?_); refine goesL_ (some 14) rfl rfl Try.func158 (by kernel_rfl) rfl #[.slice A0_1 l0_1.length c0_1, .int .i64 t185] rfl z2_ ?_; (with_reducible refine (laws_heldSuperS.calls k _ _ l0_1 t185 t186 _ ?side1 ?side2 A9.out).mono ?_); (case side1 => exact z179_); (case side2 => exact HC0_1.out); rintro e w' ⟨rfl, ⟨nd, rfl⟩⟩; refine ⟨_, rfl, ?_⟩))
  (try simp only [Act.put, List.setIfInBounds_toArray, List.set_cons_zero, List.set_cons_succ])
  have H := HC10.out
  clear HC10
  by_cases c12 : t186 < 0
  ·rw [if_pos c12] at H
   have c12b0 : decide (t186 < 0) = true := decide_eq_true c12
   clear c12
   (first | rw [c12b0] | rw [c12b1] | (simp only [i64_w, i32_w]; first | rw [c12b0] | rw [c12b1]) | rw [c12b2] | skip)
   obtain rfl := Option.some.inj H
   go_wp2
   go_ret
   exact ⟨z4_, z75_⟩
  ·rw [if_neg c12] at H
   have c12b0 : decide (t186 < 0) = false := decide_eq_false c12
   clear c12
   (first | rw [c12b0] | rw [c12b1] | (simp only [i64_w, i32_w]; first | rw [c12b0] | rw [c12b1]) | rw [c12b2] | skip)
   obtain rfl := Option.some.inj H
   go_wp2
   go_ret
   exact ⟨z4_, z75_⟩

/-! ### spec_l1In: function 106 -/
def spec_l1In.f (a0 : Int) (a1 : Int) (a2 : Int) : Option (Bool) := if a0 ≥ a1 then (some (decide (a0 ≤ a2))) else (some false)
set_option maxHeartbeats 8000000 in
set_option maxRecDepth 100000 in
theorem spec_l1In.calls (a0 : Int) (a1 : Int) (a2 : Int) (r : Bool) (w : World) (h : spec_l1In.f a0 a1 a2 = some r) :
  Calls Try.prog 106 #[.int .i64 a0, .int .i64 a1, .int .i64 a2] w fun e w' => e = .returned (.bool r) ∧ Drawn0 w w' := by
 have H : (if a0 ≥ a1 then (some (decide (a0 ≤ a2))) else (some false)) = some r := h
 clear h
 by_cases c4 : a0 ≥ a1
 ·rw [if_pos c4] at H
  have c4b0 : decide (a1 ≤ a0) = true := decide_eq_true c4
  clear c4
  obtain rfl := Option.some.inj H
  go_enter Try.func106, Try.ntmps106
  go_wp2
  go_ret
  exact ⟨z14_, z36_⟩
 ·rw [if_neg c4] at H
  have c4b0 : decide (a1 ≤ a0) = false := decide_eq_false c4
  clear c4
  obtain rfl := Option.some.inj H
  go_enter Try.func106, Try.ntmps106
  go_wp2
  go_ret
  exact ⟨z14_, z36_⟩

/-! ### spec_l6Copy: function 145 -/
def spec_l6Copy.f (l0_0 : List ByteArray) (l0_1 : List (S166)) : Option (List ByteArray × (List (S166))) := (some (([] : List ByteArray) : List ByteArray)).bind fun y189 => (if y189.length + l0_0.length < 8796093022208 then ((some (([] : List (S166)) : List (S166))).bind fun y195 => (if y195.length + l0_1.length < 8796093022208 then (some ((y189 ++ l0_0), (y195 ++ l0_1))) else (none))) else (none))
def spec_l6Copy.T1 : Bool × List (List Nat × List Nat) := (true, [([], []), ([], []), ([1], [1]), ([0, 2], [0, 2]), ([], []), ([], []), ([5], [5]), ([4, 6, 3], [4, 6]), ([3, 7], [3, 7]), ([8, 7, 0, 1, 2, 3, 4, 5, 6, 7, 8], [8])])
def spec_l6Copy.B1 : List Nat := [0, 0, 2, 7, 0, 0, 32, 127, 255, 511]
theorem spec_l6Copy.tab1 : rtab .any (opsOf Try.f145 1) = spec_l6Copy.T1 := by kernel_rfl
theorem spec_l6Copy.bits1 : waitsOk spec_l6Copy.T1.2 spec_l6Copy.B1 = true := by kernel_rfl
set_option maxHeartbeats 8000000 in
set_option maxRecDepth 100000 in
theorem spec_l6Copy.calls (A0_0 : Option Addr) (c0_0 : Nat) (l0_0 : List ByteArray) (A0_1 : Option Addr) (c0_1 : Nat) (l0_1 : List (S166)) (r1 : List ByteArray) (r2 : List (S166)) (w : World) (hr0_0 : Kd.C Kd.string w A0_0 l0_0.length l0_0) (hc0_0 : l0_0.length ≤ c0_0) (hr0_1 : Kd.C k166 w A0_1 l0_1.length l0_1) (hc0_1 : l0_1.length ≤ c0_1) (h : spec_l6Copy.f l0_0 l0_1 = some (r1, r2)) :
  Calls Try.prog 145 #[.agg #[.slice A0_0 l0_0.length c0_0, .slice A0_1 l0_1.length c0_1]] w fun e w' => ∃ v0_ v1_ : Value, e = .returned (.agg #[v0_, v1_]) ∧ Kd.R Kd.string 9 w' w.heap.size (fun _ => True) v0_ r1 ∧ Kd.R k166 166 w' w.heap.size (fun _ => True) v1_ r2 ∧ Below w.heap.size w w' := by
 have hu95 := Try.underlying95
 have HR0_0 := q_ hr0_0
 have HC0_0 := q_ hc0_0
 clear hr0_0 hc0_0
 have HR0_1 := q_ hr0_1
 have HC0_1 := q_ hc0_1
 clear hr0_1 hc0_1
 have HB := q_ (Below.refl w.heap.size w)
 have H : ((some (([] : List ByteArray) : List ByteArray)).bind fun y189 => (if y189.length + l0_0.length < 8796093022208 then ((some (([] : List (S166)) : List (S166))).bind fun y195 => (if y195.length + l0_1.length < 8796093022208 then (some ((y189 ++ l0_0), (y195 ++ l0_1))) else (none))) else (none))) = some (r1, r2) := h
 clear h
 obtain ⟨y189, hy_⟩ : ∃ y_ : List ByteArray, y_ = (([] : List ByteArray)) := ⟨_, rfl⟩
 replace H : (if y189.length + l0_0.length < 8796093022208 then ((some (([] : List (S166)) : List (S166))).bind fun y195 => (if y195.length + l0_1.length < 8796093022208 then (some ((y189 ++ l0_0), (y195 ++ l0_1))) else (none))) else (none)) = some (r1, r2) := z3_
 have Ny189 := q_ hy_
 clear hy_
 by_cases c2 : y189.length + l0_0.length < 8796093022208
 ·rw [if_pos c2] at H
  have LMc2 := q_ c2
  clear c2
  obtain ⟨y192, hy_⟩ : ∃ y_ : List ByteArray, y_ = (y189 ++ l0_0) := ⟨_, rfl⟩
  replace H : ((some (([] : List (S166)) : List (S166))).bind fun y195 => (if y195.length + l0_1.length < 8796093022208 then (some (y192, (y195 ++ l0_1))) else (none))) = some (r1, r2) := z3_
  have Ny192 := q_ hy_
  clear hy_
  obtain ⟨y195, hy_⟩ : ∃ y_ : List (S166), y_ = (([] : List (S166))) := ⟨_, rfl⟩
  replace H : (if y195.length + l0_1.length < 8796093022208 then (some (y192, (y195 ++ l0_1))) else (none)) = some (r1, r2) := z3_
  have Ny195 := q_ hy_
  clear hy_
  by_cases c3 : y195.length + l0_1.length < 8796093022208
  ·rw [if_pos c3] at H
   have LMc3 := q_ c3
   clear c3
   obtain ⟨y198, hy_⟩ : ∃ y_ : List (S166), y_ = (y195 ++ l0_1) := ⟨_, rfl⟩
   replace H : (some (y192, y198)) = some (r1, r2) := z3_
   have Ny198 := q_ hy_
   clear hy_
   simp only [Option.some.injEq, Prod.mk.injEq] at H
   obtain ⟨rfl, rfl⟩ := H
   go_enter Try.func145, Try.ntmps145
   try go_wp2_with (first | ((with_reducible refine gate_dst (N := 1) rfl ?_); refine box_event ?hg (N := 1) ?hd (cs := #[.slice A0_0 l0_0.length c0_0, .slice A0_1 l0_1.length c0_1]) (t := 95) ?hr ?_; (case hd => rfl); (case hg => rfl); (case hr => exact z177_); intro gb187 hg w4 hbox hb; have BK187 := q_ (hbox); have GW187 := q_ ((z141_ : w.heap.size ≤ gb187)); have GE187 := q_ ((z141_ : w.heap.size ≤ gb187)); replace HB := q_ (below_step z0_ hb); clear hb hbox hg) | ((with_reducible refine gate_dst (N := 2) rfl ?_); refine box_event ?hg (N := 2) ?hd (cs := #[.slice none 0 0, .slice none 0 0]) (t := 95) ?hr ?_; (case hd => rfl); (case hg => rfl); (case hr => exact z177_); intro gb188 hg w5 hbox hb; have BK188 := q_ (hbox); have GW188 := q_ ((by rw [hg]; exact (below_size z97_) : w.heap.size ≤ gb188)); have GE188 := q_ ((by rw [hg]; exact (below_size z97_) : w.heap.size ≤ gb188)); replace HB := q_ (below_step z97_ hb); have NB187_188 := q_ ((by rw [hg]; exact Nat.ne_of_lt (blk_lt (g := gb187) (o := .cells #[.slice A0_0 l0_0.length c0_0, .slice A0_1 l0_1.length c0_1] 95 (0, 0)) z29_) : gb187 ≠ gb188)); have NB188_187 := q_ ((by rw [hg]; exact Nat.ne_of_gt (blk_lt (g := gb187) (o := .cells #[.slice A0_0 l0_0.length c0_0, .slice A0_1 l0_1.length c0_1] 95 (0, 0)) z29_) : gb188 ≠ gb187)); replace BK187 := q_ (blk_below (g := gb187) (o := .cells #[.slice A0_0 l0_0.length c0_0, .slice A0_1 l0_1.length c0_1] 95 (0, 0)) z29_ hb); clear hb hbox hg))
   replace BK187 := q_ (blk_drew BK187.out)
   replace BK188 := q_ (blk_drew BK188.out)
   replace HB := q_ (below_drew1 HB.out)
   refine start_ (n := 10) (S := fun w' => w'.cell? ⟨gb187, 0, none⟩ = some (.slice A0_0 l0_0.length c0_0) ∧ w'.cell? ⟨gb187, 1, none⟩ = some (.slice A0_1 l0_1.length c0_1)) (ds := []) (tf 0 10) (by kernel_rfl) rfl rfl ⟨(blk_cell BK187.out 0).trans rfl, (blk_cell BK187.out 1).trans rfl⟩ (fun hHeld => ?_); refine with_tabW spec_l6Copy.tab1 spec_l6Copy.bits1 (fun HT_ HW_ => ?_)
   generalize w5.drew = w6 at BK187 BK188 HB hHeld ⊢
   refine p1_ 1 (some 4) #[false, true, false, false, false, false, false, false, false, false] HT_.out ?_
   refine p1_ 5 (some 8) #[false, true, false, false, false, true, false, false, false, false] HT_.out ?_
   refine take_ (i := 2) (N := some 5) (v := ?_) (a' := ?_) #[false, true, true, false, false, true, false, false, false, false] rfl rfl (take_ofW HT_.out HW_.out (by kernel_rfl)) (fun _ _ _ h => h) (Or.inl ⟨by rfl, ?_⟩) hHeld ?_ ?_
   rotate_left
   ·rintro w' ⟨s0, s1⟩
    go_simp
    with_reducible rfl
   rotate_left
   ·simp only [Act.put, List.setIfInBounds_toArray, List.set_cons_zero, List.set_cons_succ, i64_w, i32_w]
    rfl
   refine take_ (i := 6) (N := some 9) (v := ?_) (a' := ?_) #[false, true, true, false, false, true, true, false, false, false] rfl rfl (take_ofW HT_.out HW_.out (by kernel_rfl)) (fun _ _ _ h => h) (Or.inl ⟨by rfl, ?_⟩) hHeld ?_ ?_
   rotate_left
   ·rintro w' ⟨s0, s1⟩
    go_simp
    with_reducible rfl
   rotate_left
   ·simp only [Act.put, List.setIfInBounds_toArray, List.set_cons_zero, List.set_cons_succ, i64_w, i32_w]
    rfl
   refine join_ (σ := Value × Value × Value) 3 (tf 7 3) (fun s_ => [(3, s_.1), (6, s_.2.1), (7, s_.2.2)]) (fun s_ w' => (w'.cell? ⟨gb187, 0, none⟩ = some (.slice A0_0 l0_0.length c0_0) ∧ w'.cell? ⟨gb187, 1, none⟩ = some (.slice A0_1 l0_1.length c0_1)) ∧ (Kd.R Kd.string 9 w' w.heap.size (fun _ => True) s_.2.1 y192) ∧ (Kd.R k166 166 w' w.heap.size (fun _ => True) s_.2.2 y195) ∧ (w'.heap[gb187]? = some (.cells #[.slice A0_0 l0_0.length c0_0, .slice A0_1 l0_1.length c0_1] 95 (0, 0))) ∧ (w'.heap[gb188]? = some (.cells #[.slice none 0 0, .slice none 0 0] 95 (0, 0))) ∧ (Below w.heap.size w w')) ?_ ?_
   rotate_left
   ·intro hCont
    refine two_ (i := 0) (j := 4) (Ni := some 3) (Nj := some 7) #[true, true, true, false, false, true, true, false, false, false] #[false, true, true, false, true, true, true, false, false, false] rfl rfl rfl rfl (two_of HT_.out (by kernel_rfl)) (by decide) (by decide) (fun K hK => ?_) (fun K hK => ?_)
    ·skip
     refine Kd.R_lit_step Kd.string _ 9 ?hg (N := 3) ?hd (xs := ([] : List ByteArray)) (inner := []) (ok := fun _ => True) (okp := fun _ => True) ?hr ?hp (fun _ hk => hk) trivial (Below.refl _ _) (Nat.le_refl _) (by simp) ?_; (case hd => rfl); (case hg => rfl); (case hr => exact z177_); (case hp => exact z193_)
     intro v190 w7 ho8 hb hg_ hnew_
     clear hg_ hnew_
     (first | rw [← Ny189.out] at ho8 | (simp only [Int.reduceToNat] at ho8; rw [← Ny189.out] at ho8))
     have HO191 := q_ (Kd.R_lower ho8 (below_size z15_))
     replace BK187 := q_ (blk_below (g := gb187) (o := .cells #[.slice A0_0 l0_0.length c0_0, .slice A0_1 l0_1.length c0_1] 95 (0, 0)) z29_ hb)
     replace BK188 := q_ (blk_below (g := gb188) (o := .cells #[.slice none 0 0, .slice none 0 0] 95 (0, 0)) z39_ hb)
     replace HB := q_ (below_step z15_ hb)
     clear hb ho8
     refine hK.out _ _ ⟨(blk_cell BK187.out 0).trans rfl, (blk_cell BK187.out 1).trans rfl⟩ (fun hHeld => ?_)
     clear hK K
     refine norm_ (a' := ?_) ?_ ?_
     rotate_left
     ·show Act.put _ (some 3) _ = _
      simp only [Act.put, List.setIfInBounds_toArray, List.set_cons_zero, List.set_cons_succ, i64_w, i32_w]
      rfl
     refine two_ (i := 3) (j := 4) (Ni := some 6) (Nj := some 7) #[true, true, true, true, false, true, true, false, false, false] #[true, true, true, false, true, true, true, false, false, false] rfl rfl rfl rfl (two_of HT_.out (by kernel_rfl)) (by decide) (by decide) (fun K hK => ?_) (fun K hK => ?_)
     ·skip
      refine Kd.R_append_rows_step Kd.string (w0 := w) w.heap.size (by rfl) (.tmp 3) (.tmp 5) 86 9 (.string ⟨#[]⟩) 16 rfl Try.underlying86 info9 rfl (by decide) (by omega) v190 y189 l0_0 _ _ _ (fun _ => True) (fun _ => False) rfl rfl ?aO ?aR (fun _ _ h => h) (fun _ h => h.elim) ?aF ?aB ?aS ?aL ?_
      (case aR => exact z178_)
      (case aB => exact z15_)
      (case aF => exact z192_)
      (case aO => exact z77_)
      (case aS => exact (below_size z15_))
      (case aL => have := LMc2.out; omega)
      intro v193 w9 ho hb hg hat
      rw [← Ny192.out] at ho
      replace BK187 := q_ (blk_grown (g := gb187) (o := .cells #[.slice A0_0 l0_0.length c0_0, .slice A0_1 l0_1.length c0_1] 95 (0, 0)) z29_ hg (Kd.R_ne HO191.out BK187.out (by decide)))
      replace BK188 := q_ (blk_grown (g := gb188) (o := .cells #[.slice none 0 0, .slice none 0 0] 95 (0, 0)) z39_ hg (Kd.R_ne HO191.out BK188.out (by decide)))
      replace HB := q_ (hb)
      have HO194 := q_ (ho)
      clear HO191
      clear ho hb hg hat
      refine hK.out _ _ ⟨(blk_cell BK187.out 0).trans rfl, (blk_cell BK187.out 1).trans rfl⟩ (fun hHeld => ?_)
      clear hK K
      refine norm_ (a' := ?_) ?_ ?_
      rotate_left
      ·show Act.put _ (some 6) _ = _
       simp only [Act.put, List.setIfInBounds_toArray, List.set_cons_zero, List.set_cons_succ, i64_w, i32_w]
       rfl
      refine one_ (i := 4) (N := some 7) (tf 7 3) rfl rfl (one_of HT_.out (by kernel_rfl)) (by decide) (fun K hK => ?_)
      refine Kd.R_lit_step k166 _ 166 ?hg (N := 7) ?hd (xs := ([] : List (S166))) (inner := []) (ok := fun _ => True) (okp := fun _ => True) ?hr ?hp (fun _ hk => hk) trivial (Below.refl _ _) (Nat.le_refl _) (by simp) ?_; (case hd => rfl); (case hg => rfl); (case hr => exact z177_); (case hp => exact z193_)
      intro v196 w10 ho11 hb hg_ hnew_
      clear hg_ hnew_
      (first | rw [← Ny195.out] at ho11 | (simp only [Int.reduceToNat] at ho11; rw [← Ny195.out] at ho11))
      replace HO194 := q_ (Kd.R_below z86_ hb)
      have HO197 := q_ (Kd.R_lower ho11 (below_size z15_))
      replace BK187 := q_ (blk_below (g := gb187) (o := .cells #[.slice A0_0 l0_0.length c0_0, .slice A0_1 l0_1.length c0_1] 95 (0, 0)) z29_ hb)
      replace BK188 := q_ (blk_below (g := gb188) (o := .cells #[.slice none 0 0, .slice none 0 0] 95 (0, 0)) z39_ hb)
      replace HB := q_ (below_step z15_ hb)
      clear hb ho11
      refine hK.out _ _ ⟨(blk_cell BK187.out 0).trans rfl, (blk_cell BK187.out 1).trans rfl⟩ (fun hHeld => ?_)
      clear hK K
      refine norm_ (a' := ?_) ?_ ?_
      rotate_left
      ·show Act.put _ (some 7) _ = _
       simp only [Act.put, List.setIfInBounds_toArray, List.set_cons_zero, List.set_cons_succ, i64_w, i32_w]
       rfl
      exact norm_ z123_ (hCont (v190, v193, v196) _ ⟨hHeld, z86_, z64_, z29_, z39_, z15_⟩)
     ·skip
      refine Kd.R_lit_step k166 _ 166 ?hg (N := 7) ?hd (xs := ([] : List (S166))) (inner := []) (ok := fun _ => True) (okp := fun _ => True) ?hr ?hp (fun _ hk => hk) trivial (Below.refl _ _) (Nat.le_refl _) (by simp) ?_; (case hd => rfl); (case hg => rfl); (case hr => exact z177_); (case hp => exact z193_)
      intro v196 w9 ho10 hb hg_ hnew_
      clear hg_ hnew_
      (first | rw [← Ny195.out] at ho10 | (simp only [Int.reduceToNat] at ho10; rw [← Ny195.out] at ho10))
      replace HO191 := q_ (Kd.R_below z77_ hb)
      have HO197 := q_ (Kd.R_lower ho10 (below_size z15_))
      replace BK187 := q_ (blk_below (g := gb187) (o := .cells #[.slice A0_0 l0_0.length c0_0, .slice A0_1 l0_1.length c0_1] 95 (0, 0)) z29_ hb)
      replace BK188 := q_ (blk_below (g := gb188) (o := .cells #[.slice none 0 0, .slice none 0 0] 95 (0, 0)) z39_ hb)
      replace HB := q_ (below_step z15_ hb)
      clear hb ho10
      refine hK.out _ _ ⟨(blk_cell BK187.out 0).trans rfl, (blk_cell BK187.out 1).trans rfl⟩ (fun hHeld => ?_)
      clear hK K
      refine norm_ (a' := ?_) ?_ ?_
      rotate_left
      ·show Act.put _ (some 7) _ = _
       simp only [Act.put, List.setIfInBounds_toArray, List.set_cons_zero, List.set_cons_succ, i64_w, i32_w]
       rfl
      refine one_ (i := 3) (N := some 6) (tf 7 3) rfl rfl (one_of HT_.out (by kernel_rfl)) (by decide) (fun K hK => ?_)
      refine Kd.R_append_rows_step Kd.string (w0 := w) w.heap.size (by rfl) (.tmp 3) (.tmp 5) 86 9 (.string ⟨#[]⟩) 16 rfl Try.underlying86 info9 rfl (by decide) (by omega) v190 y189 l0_0 _ _ _ (fun _ => True) (fun _ => False) rfl rfl ?aO ?aR (fun _ _ h => h) (fun _ h => h.elim) ?aF ?aB ?aS ?aL ?_
      (case aR => exact z178_)
      (case aB => exact z15_)
      (case aF => exact z192_)
      (case aO => exact z77_)
      (case aS => exact (below_size z15_))
      (case aL => have := LMc2.out; omega)
      intro v193 w11 ho hb hg hat
      rw [← Ny192.out] at ho
      replace BK187 := q_ (blk_grown (g := gb187) (o := .cells #[.slice A0_0 l0_0.length c0_0, .slice A0_1 l0_1.length c0_1] 95 (0, 0)) z29_ hg (Kd.R_ne HO191.out BK187.out (by decide)))
      replace BK188 := q_ (blk_grown (g := gb188) (o := .cells #[.slice none 0 0, .slice none 0 0] 95 (0, 0)) z39_ hg (Kd.R_ne HO191.out BK188.out (by decide)))
      replace HO197 := q_ (Kd.R_over' z64_ (Kd.R_typed z77_) (by decide) hg)
      replace HB := q_ (hb)
      have HO194 := q_ (ho)
      clear HO191
      clear ho hb hg hat
      refine hK.out _ _ ⟨(blk_cell BK187.out 0).trans rfl, (blk_cell BK187.out 1).trans rfl⟩ (fun hHeld => ?_)
      clear hK K
      refine norm_ (a' := ?_) ?_ ?_
      rotate_left
      ·show Act.put _ (some 6) _ = _
       simp only [Act.put, List.setIfInBounds_toArray, List.set_cons_zero, List.set_cons_succ, i64_w, i32_w]
       rfl
      exact norm_ z123_ (hCont (v190, v193, v196) _ ⟨hHeld, z86_, z64_, z29_, z39_, z15_⟩)
    ·skip
     refine Kd.R_lit_step k166 _ 166 ?hg (N := 7) ?hd (xs := ([] : List (S166))) (inner := []) (ok := fun _ => True) (okp := fun _ => True) ?hr ?hp (fun _ hk => hk) trivial (Below.refl _ _) (Nat.le_refl _) (by simp) ?_; (case hd => rfl); (case hg => rfl); (case hr => exact z177_); (case hp => exact z193_)
     intro v196 w7 ho8 hb hg_ hnew_
     clear hg_ hnew_
     (first | rw [← Ny195.out] at ho8 | (simp only [Int.reduceToNat] at ho8; rw [← Ny195.out] at ho8))
     have HO197 := q_ (Kd.R_lower ho8 (below_size z15_))
     replace BK187 := q_ (blk_below (g := gb187) (o := .cells #[.slice A0_0 l0_0.length c0_0, .slice A0_1 l0_1.length c0_1] 95 (0, 0)) z29_ hb)
     replace BK188 := q_ (blk_below (g := gb188) (o := .cells #[.slice none 0 0, .slice none 0 0] 95 (0, 0)) z39_ hb)
     replace HB := q_ (below_step z15_ hb)
     clear hb ho8
     refine hK.out _ _ ⟨(blk_cell BK187.out 0).trans rfl, (blk_cell BK187.out 1).trans rfl⟩ (fun hHeld => ?_)
     clear hK K
     refine norm_ (a' := ?_) ?_ ?_
     rotate_left
     ·show Act.put _ (some 7) _ = _
      simp only [Act.put, List.setIfInBounds_toArray, List.set_cons_zero, List.set_cons_succ, i64_w, i32_w]
      rfl
     refine one_ (i := 0) (N := some 3) #[true, true, true, false, true, true, true, false, false, false] rfl rfl (one_of HT_.out (by kernel_rfl)) (by decide) (fun K hK => ?_)
     refine Kd.R_lit_step Kd.string _ 9 ?hg (N := 3) ?hd (xs := ([] : List ByteArray)) (inner := []) (ok := fun _ => True) (okp := fun _ => True) ?hr ?hp (fun _ hk => hk) trivial (Below.refl _ _) (Nat.le_refl _) (by simp) ?_; (case hd => rfl); (case hg => rfl); (case hr => exact z177_); (case hp => exact z193_)
     intro v190 w9 ho10 hb hg_ hnew_
     clear hg_ hnew_
     (first | rw [← Ny189.out] at ho10 | (simp only [Int.reduceToNat] at ho10; rw [← Ny189.out] at ho10))
     replace HO197 := q_ (Kd.R_below z64_ hb)
     have HO191 := q_ (Kd.R_lower ho10 (below_size z15_))
     replace BK187 := q_ (blk_below (g := gb187) (o := .cells #[.slice A0_0 l0_0.length c0_0, .slice A0_1 l0_1.length c0_1] 95 (0, 0)) z29_ hb)
     replace BK188 := q_ (blk_below (g := gb188) (o := .cells #[.slice none 0 0, .slice none 0 0] 95 (0, 0)) z39_ hb)
     replace HB := q_ (below_step z15_ hb)
     clear hb ho10
     refine hK.out _ _ ⟨(blk_cell BK187.out 0).trans rfl, (blk_cell BK187.out 1).trans rfl⟩ (fun hHeld => ?_)
     clear hK K
     refine norm_ (a' := ?_) ?_ ?_
     rotate_left
     ·show Act.put _ (some 3) _ = _
      simp only [Act.put, List.setIfInBounds_toArray, List.set_cons_zero, List.set_cons_succ, i64_w, i32_w]
      rfl
     refine one_ (i := 3) (N := some 6) (tf 7 3) rfl rfl (one_of HT_.out (by kernel_rfl)) (by decide) (fun K hK => ?_)
     refine Kd.R_append_rows_step Kd.string (w0 := w) w.heap.size (by rfl) (.tmp 3) (.tmp 5) 86 9 (.string ⟨#[]⟩) 16 rfl Try.underlying86 info9 rfl (by decide) (by omega) v190 y189 l0_0 _ _ _ (fun _ => True) (fun _ => False) rfl rfl ?aO ?aR (fun _ _ h => h) (fun _ h => h.elim) ?aF ?aB ?aS ?aL ?_
     (case aR => exact z178_)
     (case aB => exact z15_)
     (case aF => exact z192_)
     (case aO => exact z77_)
     (case aS => exact (below_size z15_))
     (case aL => have := LMc2.out; omega)
     intro v193 w11 ho hb hg hat
     rw [← Ny192.out] at ho
     replace BK187 := q_ (blk_grown (g := gb187) (o := .cells #[.slice A0_0 l0_0.length c0_0, .slice A0_1 l0_1.length c0_1] 95 (0, 0)) z29_ hg (Kd.R_ne HO191.out BK187.out (by decide)))
     replace BK188 := q_ (blk_grown (g := gb188) (o := .cells #[.slice none 0 0, .slice none 0 0] 95 (0, 0)) z39_ hg (Kd.R_ne HO191.out BK188.out (by decide)))
     replace HO197 := q_ (Kd.R_over' z64_ (Kd.R_typed z77_) (by decide) hg)
     replace HB := q_ (hb)
     have HO194 := q_ (ho)
     clear HO191
     clear ho hb hg hat
     refine hK.out _ _ ⟨(blk_cell BK187.out 0).trans rfl, (blk_cell BK187.out 1).trans rfl⟩ (fun hHeld => ?_)
     clear hK K
     refine norm_ (a' := ?_) ?_ ?_
     rotate_left
     ·show Act.put _ (some 6) _ = _
      simp only [Act.put, List.setIfInBounds_toArray, List.set_cons_zero, List.set_cons_succ, i64_w, i32_w]
      rfl
     exact norm_ z123_ (hCont (v190, v193, v196) _ ⟨hHeld, z86_, z64_, z29_, z39_, z15_⟩)
   rintro ⟨v190, v193, v196⟩ w12 ⟨hS_, h0_, h1_, h2_, h3_, h4_⟩
   have n0_ : Aside0 (Kd.R Kd.string 9 w12 w.heap.size (fun _ => True) v193 y192) := ⟨h0_⟩
   have n1_ : Aside0 (Kd.R k166 166 w12 w.heap.size (fun _ => True) v196 y195) := ⟨h1_⟩
   have n2_ : Aside0 (w12.heap[gb187]? = some (.cells #[.slice A0_0 l0_0.length c0_0, .slice A0_1 l0_1.length c0_1] 95 (0, 0))) := ⟨h2_⟩
   have n3_ : Aside0 (w12.heap[gb188]? = some (.cells #[.slice none 0 0, .slice none 0 0] 95 (0, 0))) := ⟨h3_⟩
   have n4_ : Aside0 (Below w.heap.size w w12) := ⟨h4_⟩
   clear BK187
   clear BK188
   clear HB
   clear h0_ h1_ h2_ h3_ h4_
   have HO194 := n0_
   have HO197 := n1_
   have BK187 := n2_
   have BK188 := n3_
   have HB := n4_
   clear n0_ n1_ n2_ n3_ n4_
   have hHeld : w12.cell? ⟨gb187, 0, none⟩ = some (.slice A0_0 l0_0.length c0_0) ∧ w12.cell? ⟨gb187, 1, none⟩ = some (.slice A0_1 l0_1.length c0_1) := hS_
   refine norm_ (a' := ?_) ?_ ?_
   rotate_left
   ·simp only [putAll, Act.put, List.setIfInBounds_toArray, List.set_cons_zero, List.set_cons_succ]
    rfl
   refine one_ (i := 7) (N := some 10) (tf 8 2) rfl rfl (one_of HT_.out (by kernel_rfl)) (by decide) (fun K hK => ?_)
   refine Kd.R_append_rows_step k166 (w0 := w) w.heap.size (by rfl) (.tmp 7) (.tmp 9) 93 166 (.agg #[(.int .i64 0), (.int .i64 0)]) 16 rfl Try.underlying93 info166 rfl (by decide) (by omega) v196 y195 l0_1 _ _ _ (fun _ => True) (fun _ => False) rfl rfl ?aO ?aR (fun _ _ h => h) (fun _ h => h.elim) ?aF ?aB ?aS ?aL ?_
   (case aR => exact z179_)
   (case aB => exact z15_)
   (case aF => exact z192_)
   (case aO => exact z64_)
   (case aS => exact (below_size z15_))
   (case aL => have := LMc3.out; omega)
   intro v199 w13 ho hb hg hat
   rw [← Ny198.out] at ho
   replace BK187 := q_ (blk_grown (g := gb187) (o := .cells #[.slice A0_0 l0_0.length c0_0, .slice A0_1 l0_1.length c0_1] 95 (0, 0)) z29_ hg (Kd.R_ne HO197.out BK187.out (by decide)))
   replace BK188 := q_ (blk_grown (g := gb188) (o := .cells #[.slice none 0 0, .slice none 0 0] 95 (0, 0)) z39_ hg (Kd.R_ne HO197.out BK188.out (by decide)))
   replace HO194 := q_ (Kd.R_over' z86_ (Kd.R_typed z64_) (by decide) hg)
   replace HB := q_ (hb)
   have HO200 := q_ (ho)
   clear HO197
   clear ho hb hg hat
   obtain ⟨Ao14, co14, eo14⟩ := Kd.R_slice HO200.out
   (first | subst eo14 | (injection eo14 with f1_ f2_ f3_; have f4_ := f1_.symm; have f5_ := f3_.symm; clear f1_ f2_ f3_; subst f4_; subst f5_))
   obtain ⟨Ao15, co15, eo15⟩ := Kd.R_slice HO194.out
   (first | subst eo15 | (injection eo15 with f1_ f2_ f3_; have f4_ := f1_.symm; have f5_ := f3_.symm; clear f1_ f2_ f3_; subst f4_; subst f5_))
   refine hK.out _ _ ⟨(blk_cell BK187.out 0).trans rfl, (blk_cell BK187.out 1).trans rfl⟩ (fun hHeld => ?_)
   clear hK K
   refine norm_ (a' := ?_) ?_ ?_
   rotate_left
   ·show Act.put _ (some 10) _ = _
    simp only [Act.put, List.setIfInBounds_toArray, List.set_cons_zero, List.set_cons_succ, i64_w, i32_w]
    rfl
   refine p1_ 8 (some 11) (tf 9 1) HT_.out ?_
   refine one_ (i := 9) (N := none) (tf 10 0) rfl rfl (one_of HT_.out (by kernel_rfl)) (by decide) (fun K hK => ?_)
   have hs16 : w13.cell? ⟨gb188, 0, none⟩ = some (.slice none 0 0) := (blk_cell BK188.out 0).trans rfl
   have hfs16 := blk_frozen BK188.out 0
   have hns16_0 := NB187_188.out
   have hms16_0 := NB188_187.out
   have hs17 : w13.cell? ⟨gb188, 1, none⟩ = some (.slice none 0 0) := (blk_cell BK188.out 1).trans rfl
   have hfs17 := blk_frozen BK188.out 1
   have hns17_0 := NB187_188.out
   have hms17_0 := NB188_187.out
   refine skip_ (w1 := ?_) (by rfl) rfl ?_ ?_
   rotate_left
   ·go_simp
    rfl
   refine hK.out _ _ ⟨((cell_far (p := ⟨gb188, _, none⟩) NB187_188.out _).trans (((cell_far (p := ⟨gb188, _, none⟩) NB187_188.out _).trans (hHeld.1)))), ((cell_far (p := ⟨gb188, _, none⟩) NB187_188.out _).trans (((cell_far (p := ⟨gb188, _, none⟩) NB187_188.out _).trans (hHeld.2))))⟩ (fun hHeld => ?_)
   clear hK K
   refine done_ (done_of HT_.out (by kernel_rfl)) ?_
   try go_wp2
   refine bodyPost_ret (results_cell_row rfl _ _ gb188 95 #[.slice Ao15 y192.length co15, .slice Ao14 y198.length co14] (0, 0) _ rfl (by (with_reducible repeat (first | refine blk_drewN ?_ _ | refine blk_drew ?_ | refine blk_alloc ?_ _)); refine blk_put (cs := #[.slice Ao15 y192.length co15, .slice none 0 0]) ?_ 1 _ rfl; (with_reducible repeat (first | refine blk_drewN ?_ _ | refine blk_drew ?_ | refine blk_alloc ?_ _)); refine blk_put (cs := #[.slice none 0 0, .slice none 0 0]) ?_ 0 _ rfl; (with_reducible repeat (first | refine blk_drewN ?_ _ | refine blk_drew ?_ | refine blk_alloc ?_ _)); exact BK188.out) Try.underlying95 rfl (by kernel_rfl)) rfl ?_
   exact ⟨_, _, z4_, by (with_reducible repeat (first | apply Kd.R_alloc | apply Kd.R_drewN | apply Kd.R_drew)); exact Kd.R_mono (Kd.R_far (p := ⟨gb188, 1, none⟩) (Kd.R_far (p := ⟨gb188, 0, none⟩) (Kd.R_types HO194.out BK188.out (by decide)) (fun _ hk => hk.2) (.slice Ao15 y192.length co15)) (fun _ hk => hk.2) (.slice Ao14 y198.length co14)) (fun _ hk => trivial), by (with_reducible repeat (first | apply Kd.R_alloc | apply Kd.R_drewN | apply Kd.R_drew)); exact Kd.R_mono (Kd.R_far (p := ⟨gb188, 1, none⟩) (Kd.R_far (p := ⟨gb188, 0, none⟩) (Kd.R_types HO200.out BK188.out (by decide)) (fun _ hk => hk.2) (.slice Ao15 y192.length co15)) (fun _ hk => hk.2) (.slice Ao14 y198.length co14)) (fun _ hk => trivial), z15_⟩
  ·rw [if_neg c3] at H
   exact absurd H (by simp)
 ·rw [if_neg c2] at H
  exact absurd H (by simp)

end Go.Proofs.Ytphlmbhjeoljoaa.PFnExactSome
