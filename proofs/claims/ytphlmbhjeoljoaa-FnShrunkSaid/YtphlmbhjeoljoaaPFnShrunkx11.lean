-- Written by a program of this session, which goes by the kit's print. Not trusted: Lean checks it.
import Derived.Test.YtphlmbhjeoljoaaPFnShrunkx0
import Derived.Test.YtphlmbhjeoljoaaPFnShrunkx10
namespace Go.Proofs.Ytphlmbhjeoljoaa.PFnShrunk
open Go.RowKit Go.Proofs.YtphlmbhjeoljoaaW.PrintWords Go.Proofs.YtphlmbhjeoljoaaW.PrintLast Go.Proofs.YtphlmbhjeoljoaaW.PrintMore
attribute [local go_sem] max2_int min2_int max_two min_two max_three min_three max_four min_four   -- for this text's walks alone
set_option linter.unusedVariables false
set_option linter.unusedSimpArgs false

/-! ### spec_l1DrawKey: function 141 -/
def spec_l1DrawKey.f (s0_0 : List Int) (s0_1 : Int) (s0_2 : Int) : Option (Int × Int × Int) := (spec_l1Once.f s0_0 s0_1 s0_2 15).bind fun bt282 => (if bt282.1 = true then ((spec_l1PickInt.f s0_0 bt282.2.1 bt282.2.2 (([0, 999, 500] : List Int))).bind fun bt288 => (some (bt288.1, bt288.2.1, bt288.2.2))) else ((spec_l1Below.f s0_0 bt282.2.1 bt282.2.2 30).bind fun bt291 => (some (bt291.1, bt291.2.1, bt291.2.2))))
set_option maxHeartbeats 8000000 in
set_option maxRecDepth 100000 in
theorem spec_l1DrawKey.calls (g : Nat) (s0_0 : List Int) (s0_1 : Int) (s0_2 : Int) (r1 : Int) (r2 : Int) (r3 : Int) (w0 w : World) (hI : IsS189 w0 w g s0_0 s0_1 s0_2) (hB : Below w0.heap.size w0 w) (h : spec_l1DrawKey.f s0_0 s0_1 s0_2 = some (r1, r2, r3)) :
  Calls Try.prog 141 #[.pointer (some ⟨g, 0, none⟩)] w fun e w' => e = .returned (.int .i64 r1) ∧ IsS189 w0 w' g s0_0 r2 r3 ∧ Below w0.heap.size w0 w' ∧ KeepBut w w' g none := by
 have HI0 := q_ hI
 have HK := q_ (KeepBut.refl w g none)
 have HL := q_ hB.size
 clear hI
 have HW0 := q_ hB.size
 have HB := q_ hB
 clear hB
 have H : ((spec_l1Once.f s0_0 s0_1 s0_2 15).bind fun bt282 => (if bt282.1 = true then ((spec_l1PickInt.f s0_0 bt282.2.1 bt282.2.2 (([0, 999, 500] : List Int))).bind fun bt288 => (some (bt288.1, bt288.2.1, bt288.2.2))) else ((spec_l1Below.f s0_0 bt282.2.1 bt282.2.2 30).bind fun bt291 => (some (bt291.1, bt291.2.1, bt291.2.2))))) = some (r1, r2, r3) := h
 clear h
 replace H := Option.bind_eq_some_iff.mp H
 obtain ⟨⟨t282, t283, t284⟩, A20, H⟩ := H
 replace H : (if t282 = true then ((spec_l1PickInt.f s0_0 t283 t284 (([0, 999, 500] : List Int))).bind fun bt288 => (some (bt288.1, bt288.2.1, bt288.2.2))) else ((spec_l1Below.f s0_0 t283 t284 30).bind fun bt291 => (some (bt291.1, bt291.2.1, bt291.2.2)))) = some (r1, r2, r3) := H
 have A2 := q_ A20
 clear A20
 by_cases c3 : t282 = true
 ·subst c3
  have H1 : ((spec_l1PickInt.f s0_0 t283 t284 (([0, 999, 500] : List Int))).bind fun bt288 => (some (bt288.1, bt288.2.1, bt288.2.2))) = some (r1, r2, r3) := z58_
  clear H
  have H := H1
  clear H1
  obtain ⟨y285, hy285⟩ : ∃ y_ : List Int, y_ = (([0, 999, 500] : List Int)) := ⟨_, rfl⟩
  replace H : ((spec_l1PickInt.f s0_0 t283 t284 y285).bind fun bt288 => (some (bt288.1, bt288.2.1, bt288.2.2))) = some (r1, r2, r3) := by first | (rw [hy285]; with_reducible exact H) | (have H2_ := (Option.bind_some _ _).symm.trans H; rw [hy285]; with_reducible exact H2_) | (have H2_ := (Option.bind_some _ _).symm.trans H; with_reducible exact H2_) | with_reducible exact H | (rw [hy285]; exact H) | exact H
  have Ny285 := q_ hy285
  clear hy285
  replace H := Option.bind_eq_some_iff.mp H
  obtain ⟨⟨t288, t289, t290⟩, A40, H⟩ := H
  replace H : (some (t288, t289, t290)) = some (r1, r2, r3) := H
  have A4 := q_ A40
  clear A40
  simp only [Option.some.injEq, Prod.mk.injEq] at H
  obtain ⟨rfl, rfl, rfl⟩ := H
  go_enter Try.func141, Try.ntmps141
  go_wp2_with (first | ((with_reducible refine gate_callee (f := 135) rfl ?_); refine goesL_ (some 4) rfl rfl Try.func135 (by kernel_rfl) rfl #[.pointer (some ⟨g, 0, none⟩), .int .i64 15] rfl z1_ ?_; (with_reducible refine (spec_l1Once.calls g s0_0 s0_1 s0_2 15 true t283 t284 w0 _ ?side1 ?side2 A2.out).mono ?_); (case side1 => exact z146_); (case side2 => exact z147_); rintro e w5 ⟨rfl, hi, hb, hk⟩; refine ⟨_, rfl, ?_⟩; have n0_ := q_ (KeepBut.trans z2_ hk (.inl rfl)); have n1_ := q_ (hb); have n2_ := q_ (hi); clear HK; clear HB; clear HI0; have HK := n0_; have HB := n1_; have HI0 := n2_; clear n0_ n1_ n2_; (try clear hb); (try clear hb2); (try clear hk); (try clear hi)) | ((with_reducible refine gate_dst (N := 6) rfl ?_); refine Kd.R_lit (Kd.int .i64) _ 3 ?hg (N := 6) ?hd (xs := ([0, 999, 500] : List Int)) (inner := [.int .i64 0, .int .i64 999, .int .i64 500]) (ok := fun _ => True) (okp := fun _ => True) ?hr ?hp (fun _ hk => hk) trivial (Below.refl _ _) (Nat.le_refl _) (by simp) ?_; (case hd => rfl); (case hg => rfl); (case hr => exact z148_); (case hp => exact (Reps.one (show Kd.M (Kd.int .i64) _ _ _ 0 [.int .i64 0] from rfl) (Reps.one (show Kd.M (Kd.int .i64) _ _ _ 999 [.int .i64 999] from rfl) (Reps.one (show Kd.M (Kd.int .i64) _ _ _ 500 [.int .i64 500] from rfl) (Reps.none _ _))))); intro v286 w6 ho7 hb hg_ hnew_; clear hg_ hnew_; (first | rw [← Ny285.out] at ho7 | (simp only [Int.reduceToNat] at ho7; rw [← Ny285.out] at ho7)); have n0_ := q_ (Kd.R_lower ho7 (keep_size (w := w) (g := g) (row := none) z2_)); have n1_ := q_ (IsS189.below z4_ hb); have n2_ := q_ (KeepBut.trans z2_ (KeepBut.of_below hb g none) (.inl rfl)); have n3_ := q_ (below_step z6_ hb); clear HI0; clear HK; clear HB; have HO287 := n0_; have HI0 := n1_; have HK := n2_; have HB := n3_; clear n0_ n1_ n2_ n3_; clear hb ho7; obtain ⟨Ao8, co8, eo8⟩ := Kd.R_slice HO287.out; subst eo8) | ((with_reducible refine gate_callee (f := 167) rfl ?_); refine goesL_ (some 7) rfl rfl Try.func167 (by kernel_rfl) rfl #[.pointer (some ⟨g, 0, none⟩), .slice Ao8 y285.length co8] rfl z1_ ?_; (with_reducible refine (spec_l1PickInt.calls g s0_0 t283 t284 _ _ y285 t288 t289 t290 w0 _ ?side1 ?side2 ?side3 ?side4 ?side5 A4.out).mono ?_); (case side1 => exact z146_); (case side2 => exact z147_); (case side3 => repeat (first | exact (Kd.R_reads' HO287.out).2.2 | (with_reducible refine Kd.C_alloc ?_ _) | (with_reducible refine Kd.C_drewN ?_ _) | (with_reducible refine Kd.C_drew ?_))); (case side4 => exact (Kd.R_reads' HO287.out).2.1); (case side5 => exact far_slice (IsS189.own_ne HI0.out HO287.out (by decide))); rintro e w9 ⟨rfl, hi, hb, hk⟩; refine ⟨_, rfl, ?_⟩; have n0_ := q_ (Kd.R_mono (Kd.R_keep (IsS189.apart (show IsS189 w0 _ g s0_0 t283 t284 from z4_) (by (with_reducible repeat (first | apply Kd.R_alloc | apply Kd.R_drewN | apply Kd.R_drew)); exact HO287.out) (by decide)) hk (fun _ h => h.2)) (fun _ h => h.1)); have n1_ := q_ (KeepBut.trans z2_ hk (.inl rfl)); have n2_ := q_ (hb); have n3_ := q_ (hi); clear HO287; clear HK; clear HB; clear HI0; have HO287 := n0_; have HK := n1_; have HB := n2_; have HI0 := n3_; clear n0_ n1_ n2_ n3_; (try clear hb); (try clear hb2); (try clear hk); (try clear hi)))
  go_ret
  exact ⟨z5_, z4_, z6_, z2_⟩
 ·replace c3 := Bool.eq_false_iff.mpr c3
  subst c3
  have H1 : ((spec_l1Below.f s0_0 t283 t284 30).bind fun bt291 => (some (bt291.1, bt291.2.1, bt291.2.2))) = some (r1, r2, r3) := by rw [if_neg (show ¬ (false = true) by decide)] at H; exact H
  clear H
  have H := H1
  clear H1
  replace H := Option.bind_eq_some_iff.mp H
  obtain ⟨⟨t291, t292, t293⟩, A100, H⟩ := H
  replace H : (some (t291, t292, t293)) = some (r1, r2, r3) := H
  have A10 := q_ A100
  clear A100
  simp only [Option.some.injEq, Prod.mk.injEq] at H
  obtain ⟨rfl, rfl, rfl⟩ := H
  go_enter Try.func141, Try.ntmps141
  go_wp2_with (first | ((with_reducible refine gate_callee (f := 135) rfl ?_); refine goesL_ (some 4) rfl rfl Try.func135 (by kernel_rfl) rfl #[.pointer (some ⟨g, 0, none⟩), .int .i64 15] rfl z1_ ?_; (with_reducible refine (spec_l1Once.calls g s0_0 s0_1 s0_2 15 false t283 t284 w0 _ ?side1 ?side2 A2.out).mono ?_); (case side1 => exact z146_); (case side2 => exact z147_); rintro e w11 ⟨rfl, hi, hb, hk⟩; refine ⟨_, rfl, ?_⟩; have n0_ := q_ (KeepBut.trans z2_ hk (.inl rfl)); have n1_ := q_ (hb); have n2_ := q_ (hi); clear HK; clear HB; clear HI0; have HK := n0_; have HB := n1_; have HI0 := n2_; clear n0_ n1_ n2_; (try clear hb); (try clear hb2); (try clear hk); (try clear hi)) | ((with_reducible refine gate_callee (f := 126) rfl ?_); refine goesL_ (some 9) rfl rfl Try.func126 (by kernel_rfl) rfl #[.pointer (some ⟨g, 0, none⟩), .int .i64 30] rfl z1_ ?_; (with_reducible refine (spec_l1Below.calls g s0_0 t283 t284 30 t291 t292 t293 w0 _ ?side1 ?side2 A10.out).mono ?_); (case side1 => exact z146_); (case side2 => exact z147_); rintro e w12 ⟨rfl, hi, hb, hk⟩; refine ⟨_, rfl, ?_⟩; have n0_ := q_ (KeepBut.trans z2_ hk (.inl rfl)); have n1_ := q_ (hb); have n2_ := q_ (hi); clear HK; clear HB; clear HI0; have HK := n0_; have HB := n1_; have HI0 := n2_; clear n0_ n1_ n2_; (try clear hb); (try clear hb2); (try clear hk); (try clear hi)))
  go_ret
  exact ⟨z5_, z4_, z6_, z2_⟩

/-! ### spec_l1DrawMap: function 174 -/
def spec_l1DrawMap.l0 : Nat → List (S147) → Int → Int → List Int → Int → Int → Option ((List (S147)) × Int × Int)
 | 0, _, _, _, _, _, _ => none
 | k + 1, x5, x6, x7, x1000, x1001, x1002 => if x7 < x6 then ((spec_l1DrawKey.f x1000 x1001 x1002).bind fun bt300 => ((spec_l1Below.f x1000 bt300.2.1 bt300.2.2 50).bind fun bt303 => ((spec_l1Put.f k x5 bt300.1 (wrap64 (bt303.1 - 9))).bind fun t306 => (spec_l1DrawMap.l0 k t306 x6 (wrap64 (x7 + 1)) x1000 bt303.2.1 bt303.2.2)))) else (some (x5, x1001, x1002))
def spec_l1DrawMap.f (k : Nat) (s0_0 : List Int) (s0_1 : Int) (s0_2 : Int) (a1 : Int) : Option ((List (S147)) × Int × Int) := (spec_l1Below.f s0_0 s0_1 s0_2 (wrap64 (a1 + 1))).bind fun bt297 => (spec_l1DrawMap.l0 k (([] : List (S147))) bt297.1 0 s0_0 bt297.2.1 bt297.2.2)
theorem spec_l1DrawMap.mono_l : ∀ k, (∀ y0 y1 y2 y3 y4 y5, LeO (spec_l1DrawMap.l0 k y0 y1 y2 y3 y4 y5) (spec_l1DrawMap.l0 (k + 1) y0 y1 y2 y3 y4 y5))
 | 0 => fun _ _ _ _ _ _ r h => by simp [spec_l1DrawMap.l0] at h
 | k + 1 => by
  have ih0 := spec_l1DrawMap.mono_l k
  ·intro y0 y1 y2 y3 y4 y5
   unfold spec_l1DrawMap.l0
   repeat' first
   | (with_reducible exact ih0 _ _ _ _ _ _)
   | (with_reducible exact spec_l1Put.mono _ _ _ _)
   | (with_reducible exact LeO.refl _)
   | (with_reducible exact LeO.none _)
   | (with_reducible refine LeO.ite ?_ ?_)
   | (with_reducible refine LeO.bind ?_ (fun _ => ?_))
   | exact ih0 _ _ _ _ _ _
   | exact spec_l1Put.mono _ _ _ _
   | exact LeO.none _
   | refine LeO.ite ?_ ?_
   | refine LeO.bind ?_ (fun _ => ?_)
theorem spec_l1DrawMap.mono : ∀ a0 a1 a2 a3 k, LeO (spec_l1DrawMap.f k a0 a1 a2 a3) (spec_l1DrawMap.f (k + 1) a0 a1 a2 a3) := by
 intro a0 a1 a2 a3 k
 have ih0 := spec_l1DrawMap.mono_l k
 unfold spec_l1DrawMap.f
 repeat' first
   | (with_reducible exact ih0 _ _ _ _ _ _)
   | (with_reducible exact spec_l1Put.mono _ _ _ _)
   | (with_reducible exact LeO.refl _)
   | (with_reducible exact LeO.none _)
   | (with_reducible refine LeO.ite ?_ ?_)
   | (with_reducible refine LeO.bind ?_ (fun _ => ?_))
   | exact ih0 _ _ _ _ _ _
   | exact spec_l1Put.mono _ _ _ _
   | exact LeO.none _
   | refine LeO.ite ?_ ?_
   | refine LeO.bind ?_ (fun _ => ?_)
set_option maxHeartbeats 8000000 in
set_option maxRecDepth 100000 in
theorem spec_l1DrawMap.calls (k : Nat) (g : Nat) (s0_0 : List Int) (s0_1 : Int) (s0_2 : Int) (a1 : Int) (r1 : List (S147)) (r2 : Int) (r3 : Int) (w0 w : World) (hI : IsS189 w0 w g s0_0 s0_1 s0_2) (hB : Below w0.heap.size w0 w) (h : spec_l1DrawMap.f k s0_0 s0_1 s0_2 a1 = some (r1, r2, r3)) :
  Calls Try.prog 174 #[.pointer (some ⟨g, 0, none⟩), .int .i64 a1] w fun e w' => ∃ v0_ : Value, e = .returned (v0_) ∧ Kd.R k147 147 w' w.heap.size (fun _ => True) v0_ r1 ∧ IsS189 w0 w' g s0_0 r2 r3 ∧ Below w0.heap.size w0 w' ∧ KeepBut w w' g none := by
 have HI0 := q_ hI
 have HK := q_ (KeepBut.refl w g none)
 have HL := q_ hB.size
 clear hI
 have HW0 := q_ hB.size
 have HB := q_ hB
 clear hB
 have H : ((spec_l1Below.f s0_0 s0_1 s0_2 (wrap64 (a1 + 1))).bind fun bt297 => (spec_l1DrawMap.l0 k (([] : List (S147))) bt297.1 0 s0_0 bt297.2.1 bt297.2.2)) = some (r1, r2, r3) := h
 clear h
 obtain ⟨y294, hy294⟩ : ∃ y_ : List (S147), y_ = (([] : List (S147))) := ⟨_, rfl⟩
 replace H : ((spec_l1Below.f s0_0 s0_1 s0_2 (wrap64 (a1 + 1))).bind fun bt297 => (spec_l1DrawMap.l0 k y294 bt297.1 0 s0_0 bt297.2.1 bt297.2.2)) = some (r1, r2, r3) := by first | (rw [hy294]; with_reducible exact H) | (have H2_ := (Option.bind_some _ _).symm.trans H; rw [hy294]; with_reducible exact H2_) | (have H2_ := (Option.bind_some _ _).symm.trans H; with_reducible exact H2_) | with_reducible exact H | (rw [hy294]; exact H) | exact H
 have Ny294 := q_ hy294
 clear hy294
 replace H := Option.bind_eq_some_iff.mp H
 obtain ⟨⟨t297, t298, t299⟩, A30, H⟩ := H
 replace H : (spec_l1DrawMap.l0 k y294 t297 0 s0_0 t298 t299) = some (r1, r2, r3) := H
 have A3 := q_ A30
 clear A30
 have H' := q_ H
 clear H
 go_enter Try.func174, Try.ntmps174
 go_wp2_with (first | ((with_reducible refine gate_dst (N := 8) rfl ?_); refine Kd.R_lit k147 _ 147 ?hg (N := 8) ?hd (xs := ([] : List (S147))) (inner := []) (ok := fun _ => True) (okp := fun _ => True) ?hr ?hp (fun _ hk => hk) trivial (Below.refl _ _) (Nat.le_refl _) (by simp) ?_; (case hd => rfl); (case hg => rfl); (case hr => exact z148_); (case hp => exact (Reps.none _ _)); intro v295 w4 ho5 hb hg_ hnew_; clear hg_ hnew_; (first | rw [← Ny294.out] at ho5 | (simp only [Int.reduceToNat] at ho5; rw [← Ny294.out] at ho5)); have n0_ := q_ (Kd.R_lower ho5 (keep_size (w := w) (g := g) (row := none) z2_)); have n1_ := q_ (IsS189.below z4_ hb); have n2_ := q_ (KeepBut.trans z2_ (KeepBut.of_below hb g none) (.inl rfl)); have n3_ := q_ (below_step z6_ hb); clear HI0; clear HK; clear HB; have HO296 := n0_; have HI0 := n1_; have HK := n2_; have HB := n3_; clear n0_ n1_ n2_ n3_; clear hb ho5) | ((with_reducible refine gate_callee (f := 126) rfl ?_); refine goesL_ (some 12) rfl rfl Try.func126 (by kernel_rfl) rfl #[.pointer (some ⟨g, 0, none⟩), .int .i64 (wrap64 (a1 + 1))] rfl z1_ ?_; (with_reducible refine (spec_l1Below.calls g s0_0 s0_1 s0_2 (wrap64 (a1 + 1)) t297 t298 t299 w0 _ ?side1 ?side2 A3.out).mono ?_); (case side1 => exact z146_); (case side2 => exact z147_); rintro e w6 ⟨rfl, hi, hb, hk⟩; refine ⟨_, rfl, ?_⟩; have n0_ := q_ (Kd.R_mono (Kd.R_keep (IsS189.apart (show IsS189 w0 _ g s0_0 s0_1 s0_2 from z4_) z103_ (by decide)) hk (fun _ h => h.2)) (fun _ h => h.1)); have n1_ := q_ (KeepBut.trans z2_ hk (.inl rfl)); have n2_ := q_ (hb); have n3_ := q_ (hi); clear HO296; clear HK; clear HB; clear HI0; have HO296 := n0_; have HK := n1_; have HB := n2_; have HI0 := n3_; clear n0_ n1_ n2_ n3_; (try clear hb); (try clear hb2); (try clear hk); (try clear hi)))
 go_loopg [5, 7] k (fun kq v5 v7 w' => ∃ (x5_1 : List (S147)) (x7_1 : Int) (x1001_1 : Int) (x1002_1 : Int), v7 = .int .i64 x7_1 ∧ Aside0 (spec_l1DrawMap.l0 kq x5_1 t297 x7_1 s0_0 x1001_1 x1002_1 = some (r1, r2, r3)) ∧ Aside0 (kq ≤ k) ∧ Aside0 (Kd.R k147 147 w' w.heap.size (fun _ => True) v5 x5_1) ∧ Aside0 (IsS189 w0 w' g s0_0 x1001_1 x1002_1) ∧ Aside0 (KeepBut w w' g none) ∧ Aside0 (Below w0.heap.size w0 w'))
 case atStart => exact ⟨(y294), (0), (t298), (t299), z7_, H', ⟨Nat.le_refl _⟩, ⟨z103_⟩, ⟨z4_⟩, ⟨z2_⟩, ⟨z6_⟩⟩
 case round =>
  clear H'
  try clear c1
  try clear p2
  try clear p6
  obtain ⟨x5_1, x7_1, x1001_1, x1002_1, rfl, HA, HK1, HO_5, HI0, HK, HB⟩ := hrel
  cases gk with
  | zero => exact absurd HA.out (by simp [spec_l1DrawMap.l0])
  | succ k1 =>
   have H := HA.out
   clear HA
   simp only [spec_l1DrawMap.l0] at H
   by_cases c7 : x7_1 < t297
   ·rw [if_pos c7] at H
    have c7b0 : decide (x7_1 < t297) = true := decide_eq_true c7
    clear c7
    replace H := Option.bind_eq_some_iff.mp H
    obtain ⟨⟨t300, t301, t302⟩, A80, H⟩ := H
    replace H : ((spec_l1Below.f s0_0 t301 t302 50).bind fun bt303 => ((spec_l1Put.f k1 x5_1 t300 (wrap64 (bt303.1 - 9))).bind fun t306 => (spec_l1DrawMap.l0 k1 t306 t297 (wrap64 (x7_1 + 1)) s0_0 bt303.2.1 bt303.2.2))) = some (r1, r2, r3) := H
    have A8 := q_ A80
    clear A80
    replace H := Option.bind_eq_some_iff.mp H
    obtain ⟨⟨t303, t304, t305⟩, A90, H⟩ := H
    replace H : ((spec_l1Put.f k1 x5_1 t300 (wrap64 (t303 - 9))).bind fun t306 => (spec_l1DrawMap.l0 k1 t306 t297 (wrap64 (x7_1 + 1)) s0_0 t304 t305)) = some (r1, r2, r3) := H
    have A9 := q_ A90
    clear A90
    replace H := Option.bind_eq_some_iff.mp H
    obtain ⟨t306, A100, H⟩ := H
    replace H : (spec_l1DrawMap.l0 k1 t306 t297 (wrap64 (x7_1 + 1)) s0_0 t304 t305) = some (r1, r2, r3) := H
    have A10 := q_ A100
    clear A100
    have H' := q_ H
    clear H
    go_wp2_with (first | ((with_reducible refine gate_callee (f := 141) rfl ?_); refine goesL_ (some 20) rfl rfl Try.func141 (by kernel_rfl) rfl #[.pointer (some ⟨g, 0, none⟩)] rfl z1_ ?_; (with_reducible refine (spec_l1DrawKey.calls g s0_0 x1001_1 x1002_1 t300 t301 t302 w0 _ ?side1 ?side2 A8.out).mono ?_); (case side1 => exact z146_); (case side2 => exact z147_); rintro e w11 ⟨rfl, hi, hb, hk⟩; refine ⟨_, rfl, ?_⟩; have n0_ := q_ (Kd.R_mono (Kd.R_keep (IsS189.apart (show IsS189 w0 _ g s0_0 x1001_1 x1002_1 from z4_) z36_ (by decide)) hk (fun _ h => h.2)) (fun _ h => h.1)); have n1_ := q_ (KeepBut.trans z2_ hk (.inl rfl)); have n2_ := q_ (hb); have n3_ := q_ (hi); clear HO_5; clear HK; clear HB; clear HI0; have HO_5 := n0_; have HK := n1_; have HB := n2_; have HI0 := n3_; clear n0_ n1_ n2_ n3_; (try clear hb); (try clear hb2); (try clear hk); (try clear hi)) | ((with_reducible refine gate_callee (f := 126) rfl ?_); refine goesL_ (some 22) rfl rfl Try.func126 (by kernel_rfl) rfl #[.pointer (some ⟨g, 0, none⟩), .int .i64 50] rfl z1_ ?_; (with_reducible refine (spec_l1Below.calls g s0_0 t301 t302 50 t303 t304 t305 w0 _ ?side1 ?side2 A9.out).mono ?_); (case side1 => exact z146_); (case side2 => exact z147_); rintro e w12 ⟨rfl, hi, hb, hk⟩; refine ⟨_, rfl, ?_⟩; have n0_ := q_ (Kd.R_mono (Kd.R_keep (IsS189.apart (show IsS189 w0 _ g s0_0 t301 t302 from z4_) z36_ (by decide)) hk (fun _ h => h.2)) (fun _ h => h.1)); have n1_ := q_ (KeepBut.trans z2_ hk (.inl rfl)); have n2_ := q_ (hb); have n3_ := q_ (hi); clear HO_5; clear HK; clear HB; clear HI0; have HO_5 := n0_; have HK := n1_; have HB := n2_; have HI0 := n3_; clear n0_ n1_ n2_ n3_; (try clear hb); (try clear hb2); (try clear hk); (try clear hi); obtain ⟨Ao13, co13, eo13⟩ := Kd.R_slice HO_5.out; subst eo13) | ((with_reducible refine gate_callee (f := 127) rfl ?_); refine goesL_ (some 24) rfl rfl Try.func127 (by kernel_rfl) rfl #[.slice Ao13 x5_1.length co13, .int .i64 t300, .int .i64 (wrap64 (t303 - 9))] rfl z1_ ?_; (with_reducible refine (spec_l1Put.calls k1 _ _ x5_1 t300 (wrap64 (t303 - 9)) t306 _ ?side1 ?side2 A10.out).mono ?_); (case side1 => repeat (first | exact (Kd.R_reads' HO_5.out).2.2 | (with_reducible refine Kd.C_alloc ?_ _) | (with_reducible refine Kd.C_drewN ?_ _) | (with_reducible refine Kd.C_drew ?_))); (case side2 => exact (Kd.R_reads' HO_5.out).2.1); rintro e w14 ⟨v307, rfl, ho0, hb⟩; refine ⟨_, rfl, ?_⟩; have n0_ := q_ (Kd.R_elder' z36_ (Kd.R_base ho0) hb); have n1_ := q_ (Kd.R_lower (Kd.R_new' ho0 (Kd.R_lt z36_)) (keep_size (w := w) (g := g) (row := none) z2_)); have n2_ := q_ (IsS189.below z4_ hb); have n3_ := q_ (KeepBut.trans z2_ (KeepBut.of_below hb g none) (.inl rfl)); have n4_ := q_ (below_step z6_ hb); clear HO_5; clear HI0; clear HK; clear HB; have HO_5 := n0_; have HO308 := n1_; have HI0 := n2_; have HK := n3_; have HB := n4_; clear n0_ n1_ n2_ n3_ n4_; (try clear hb); (try clear hb2); (try clear hk); (try clear hi); (try clear ho0)))
    go_roundg k1
    case measure => have := HK1.out; omega
    case rel => exact ⟨(t306), (wrap64 (x7_1 + 1)), (t304), (t305), z7_, H', ⟨z74_⟩, ⟨by (with_reducible repeat (first | apply Kd.R_alloc | apply Kd.R_drewN | apply Kd.R_drew)); exact Kd.R_mono HO308.out (fun _ hk => trivial)⟩, ⟨z4_⟩, ⟨z2_⟩, ⟨z6_⟩⟩
   ·rw [if_neg c7] at H
    have c7b0 : decide (x7_1 < t297) = false := decide_eq_false c7
    clear c7
    simp only [Option.some.injEq, Prod.mk.injEq] at H
    obtain ⟨rfl, rfl, rfl⟩ := H
    go_wp2
    go_ret
    exact ⟨_, z5_, z36_, z4_, z6_, z2_⟩

/-! ### spec_l1DrawBadMap: function 133 -/
def spec_l1DrawBadMap.f (k : Nat) (s0_0 : List Int) (s0_1 : Int) (s0_2 : Int) : Option ((List (S147)) × Int × Int) := (spec_l1DrawMap.f k s0_0 s0_1 s0_2 8).bind fun bt309 => ((spec_l1Below.f s0_0 bt309.2.1 bt309.2.2 15).bind fun bt314 => (if bt314.1 = 0 then ((spec_l1Below.f s0_0 bt314.2.1 bt314.2.2 9).bind fun bt317 => (if bt309.1.length < 8796093022208 then (some ((bt309.1 ++ [(⟨bt317.1, 0⟩ : S147)]), bt317.2.1, bt317.2.2)) else (none))) else (if bt314.1 = 1 then ((spec_l1PickInt.f s0_0 bt314.2.1 bt314.2.2 (([1000000000, 1000000001] : List Int))).bind fun bt326 => (if bt309.1.length < 8796093022208 then (some ((bt309.1 ++ [(⟨999, bt326.1⟩ : S147)]), bt326.2.1, bt326.2.2)) else (none))) else (some (bt309.1, bt314.2.1, bt314.2.2)))))
theorem spec_l1DrawBadMap.mono : ∀ a0 a1 a2 k, LeO (spec_l1DrawBadMap.f k a0 a1 a2) (spec_l1DrawBadMap.f (k + 1) a0 a1 a2) := by
 intro a0 a1 a2 k
 unfold spec_l1DrawBadMap.f
 repeat' first
   | (with_reducible exact spec_l1DrawMap.mono _ _ _ _ _)
   | (with_reducible exact LeO.refl _)
   | (with_reducible exact LeO.none _)
   | (with_reducible refine LeO.ite ?_ ?_)
   | (with_reducible refine LeO.bind ?_ (fun _ => ?_))
   | exact spec_l1DrawMap.mono _ _ _ _ _
   | exact LeO.none _
   | refine LeO.ite ?_ ?_
   | refine LeO.bind ?_ (fun _ => ?_)
set_option maxHeartbeats 8000000 in
set_option maxRecDepth 100000 in
theorem spec_l1DrawBadMap.calls (k : Nat) (g : Nat) (s0_0 : List Int) (s0_1 : Int) (s0_2 : Int) (r1 : List (S147)) (r2 : Int) (r3 : Int) (w0 w : World) (hI : IsS189 w0 w g s0_0 s0_1 s0_2) (hB : Below w0.heap.size w0 w) (h : spec_l1DrawBadMap.f k s0_0 s0_1 s0_2 = some (r1, r2, r3)) :
  Calls Try.prog 133 #[.pointer (some ⟨g, 0, none⟩)] w fun e w' => ∃ v0_ : Value, e = .returned (v0_) ∧ Kd.R k147 147 w' w.heap.size (fun _ => True) v0_ r1 ∧ IsS189 w0 w' g s0_0 r2 r3 ∧ Below w0.heap.size w0 w' ∧ KeepBut w w' g none := by
 have hu147 := Try.underlying147
 have HI0 := q_ hI
 have HK := q_ (KeepBut.refl w g none)
 have HL := q_ hB.size
 clear hI
 have HW0 := q_ hB.size
 have HB := q_ hB
 clear hB
 have H : ((spec_l1DrawMap.f k s0_0 s0_1 s0_2 8).bind fun bt309 => ((spec_l1Below.f s0_0 bt309.2.1 bt309.2.2 15).bind fun bt314 => (if bt314.1 = 0 then ((spec_l1Below.f s0_0 bt314.2.1 bt314.2.2 9).bind fun bt317 => (if bt309.1.length < 8796093022208 then (some ((bt309.1 ++ [(⟨bt317.1, 0⟩ : S147)]), bt317.2.1, bt317.2.2)) else (none))) else (if bt314.1 = 1 then ((spec_l1PickInt.f s0_0 bt314.2.1 bt314.2.2 (([1000000000, 1000000001] : List Int))).bind fun bt326 => (if bt309.1.length < 8796093022208 then (some ((bt309.1 ++ [(⟨999, bt326.1⟩ : S147)]), bt326.2.1, bt326.2.2)) else (none))) else (some (bt309.1, bt314.2.1, bt314.2.2)))))) = some (r1, r2, r3) := h
 clear h
 replace H := Option.bind_eq_some_iff.mp H
 obtain ⟨⟨t309, t312, t313⟩, A20, H⟩ := H
 replace H : ((spec_l1Below.f s0_0 t312 t313 15).bind fun bt314 => (if bt314.1 = 0 then ((spec_l1Below.f s0_0 bt314.2.1 bt314.2.2 9).bind fun bt317 => (if t309.length < 8796093022208 then (some ((t309 ++ [(⟨bt317.1, 0⟩ : S147)]), bt317.2.1, bt317.2.2)) else (none))) else (if bt314.1 = 1 then ((spec_l1PickInt.f s0_0 bt314.2.1 bt314.2.2 (([1000000000, 1000000001] : List Int))).bind fun bt326 => (if t309.length < 8796093022208 then (some ((t309 ++ [(⟨999, bt326.1⟩ : S147)]), bt326.2.1, bt326.2.2)) else (none))) else (some (t309, bt314.2.1, bt314.2.2))))) = some (r1, r2, r3) := H
 have A2 := q_ A20
 clear A20
 replace H := Option.bind_eq_some_iff.mp H
 obtain ⟨⟨t314, t315, t316⟩, A30, H⟩ := H
 replace H : (if t314 = 0 then ((spec_l1Below.f s0_0 t315 t316 9).bind fun bt317 => (if t309.length < 8796093022208 then (some ((t309 ++ [(⟨bt317.1, 0⟩ : S147)]), bt317.2.1, bt317.2.2)) else (none))) else (if t314 = 1 then ((spec_l1PickInt.f s0_0 t315 t316 (([1000000000, 1000000001] : List Int))).bind fun bt326 => (if t309.length < 8796093022208 then (some ((t309 ++ [(⟨999, bt326.1⟩ : S147)]), bt326.2.1, bt326.2.2)) else (none))) else (some (t309, t315, t316)))) = some (r1, r2, r3) := H
 have A3 := q_ A30
 clear A30
 by_cases c4 : t314 = 0
 ·rw [if_pos c4] at H
  have c4b0 : (t314 == 0) = true := beq_iff_eq.mpr c4
  have c4b1 : (t314 != 0) = false := bne_eq_false_iff_eq.mpr c4
  clear c4
  replace H := Option.bind_eq_some_iff.mp H
  obtain ⟨⟨t317, t318, t319⟩, A50, H⟩ := H
  replace H : (if t309.length < 8796093022208 then (some ((t309 ++ [(⟨t317, 0⟩ : S147)]), t318, t319)) else (none)) = some (r1, r2, r3) := H
  have A5 := q_ A50
  clear A50
  by_cases c6 : t309.length < 8796093022208
  ·rw [if_pos c6] at H
   have LMc6 := q_ c6
   clear c6
   obtain ⟨y320, hy320⟩ : ∃ y_ : List (S147), y_ = (t309 ++ [(⟨t317, 0⟩ : S147)]) := ⟨_, rfl⟩
   replace H : (some (y320, t318, t319)) = some (r1, r2, r3) := by first | (rw [hy320]; with_reducible exact H) | (have H2_ := (Option.bind_some _ _).symm.trans H; rw [hy320]; with_reducible exact H2_) | (have H2_ := (Option.bind_some _ _).symm.trans H; with_reducible exact H2_) | with_reducible exact H | (rw [hy320]; exact H) | exact H
   have Ny320 := q_ hy320
   clear hy320
   simp only [Option.some.injEq, Prod.mk.injEq] at H
   obtain ⟨rfl, rfl, rfl⟩ := H
   go_enter Try.func133, Try.ntmps133
   go_wp2_with (first | ((with_reducible refine gate_callee (f := 174) rfl ?_); refine goesL_ (some 5) rfl rfl Try.func174 (by kernel_rfl) rfl #[.pointer (some ⟨g, 0, none⟩), .int .i64 8] rfl z1_ ?_; (with_reducible refine (spec_l1DrawMap.calls k g s0_0 s0_1 s0_2 8 t309 t312 t313 w0 _ ?side1 ?side2 A2.out).mono ?_); (case side1 => exact z146_); (case side2 => exact z147_); rintro e w7 ⟨v310, rfl, ho0, hi, hb, hk⟩; refine ⟨_, rfl, ?_⟩; have n0_ := q_ (Kd.R_lower ho0 (keep_size (w := w) (g := g) (row := none) z2_)); have n1_ := q_ (KeepBut.trans z2_ hk (.inl rfl)); have n2_ := q_ (hb); have n3_ := q_ (hi); clear HK; clear HB; clear HI0; have HO311 := n0_; have HK := n1_; have HB := n2_; have HI0 := n3_; clear n0_ n1_ n2_ n3_; (try clear hb); (try clear hb2); (try clear hk); (try clear hi); (try clear ho0)) | ((with_reducible refine gate_callee (f := 126) rfl ?_); refine goesL_ (some 7) rfl rfl Try.func126 (by kernel_rfl) rfl #[.pointer (some ⟨g, 0, none⟩), .int .i64 15] rfl z1_ ?_; (with_reducible refine (spec_l1Below.calls g s0_0 t312 t313 15 t314 t315 t316 w0 _ ?side1 ?side2 A3.out).mono ?_); (case side1 => exact z146_); (case side2 => exact z147_); rintro e w8 ⟨rfl, hi, hb, hk⟩; refine ⟨_, rfl, ?_⟩; have n0_ := q_ (Kd.R_mono (Kd.R_keep (IsS189.apart (show IsS189 w0 _ g s0_0 t312 t313 from z4_) z55_ (by decide)) hk (fun _ h => h.2)) (fun _ h => h.1)); have n1_ := q_ (KeepBut.trans z2_ hk (.inl rfl)); have n2_ := q_ (hb); have n3_ := q_ (hi); clear HO311; clear HK; clear HB; clear HI0; have HO311 := n0_; have HK := n1_; have HB := n2_; have HI0 := n3_; clear n0_ n1_ n2_ n3_; (try clear hb); (try clear hb2); (try clear hk); (try clear hi)) | ((with_reducible refine gate_callee (f := 126) rfl ?_); refine goesL_ (some 12) rfl rfl Try.func126 (by kernel_rfl) rfl #[.pointer (some ⟨g, 0, none⟩), .int .i64 9] rfl z1_ ?_; (with_reducible refine (spec_l1Below.calls g s0_0 t315 t316 9 t317 t318 t319 w0 _ ?side1 ?side2 A5.out).mono ?_); (case side1 => exact z146_); (case side2 => exact z147_); rintro e w9 ⟨rfl, hi, hb, hk⟩; refine ⟨_, rfl, ?_⟩; have n0_ := q_ (Kd.R_mono (Kd.R_keep (IsS189.apart (show IsS189 w0 _ g s0_0 t315 t316 from z4_) z55_ (by decide)) hk (fun _ h => h.2)) (fun _ h => h.1)); have n1_ := q_ (KeepBut.trans z2_ hk (.inl rfl)); have n2_ := q_ (hb); have n3_ := q_ (hi); clear HO311; clear HK; clear HB; clear HI0; have HO311 := n0_; have HK := n1_; have HB := n2_; have HI0 := n3_; clear n0_ n1_ n2_ n3_; (try clear hb); (try clear hb2); (try clear hk); (try clear hi)) | ((with_reducible refine gate_builtin (b := .append) (xs := #[.tmp 10, .tmp 14]) rfl ?_); at_builtin; refine Kd.R_append k147 w.heap.size rfl (.tmp 10) (.tmp 14) 42 147 (.agg #[(.int .i64 0), (.int .i64 0)]) 16 rfl Try.underlying42 info147 rfl (by decide) (by omega) v310 t309 (⟨t317, 0⟩ : S147) [.int .i64 t317, .int .i64 0] (fun _ => True) (fun _ => False) rfl rfl ?aP (fun _ hk => hk.elim) ?aF ?aO (Below.refl _ _) ?aS ?aL ?_; (case aP => exact k147_mkM _ _ _ (⟨t317, 0⟩ : S147)); (case aF => exact z177_); (case aO => exact z55_); (case aS => exact (keep_size (w := w) (g := g) (row := none) z2_)); (case aL => have := LMc6.out; omega); intro v321 w10 ho hb hg hat; rw [← Ny320.out] at ho; have n0_ := q_ (IsS189.grown (show IsS189 w0 _ g s0_0 t318 t319 from z4_) hg (IsS189.own_ne HI0.out HO311.out (by decide))); have n1_ := q_ (below_weaken z6_ HL.out hb); have n2_ := q_ (KeepBut.trans z2_ (KeepBut.of_grown hg g) (Kd.R_base2 HO311.out)); have n3_ := q_ (ho); clear HI0; clear HB; clear HK; clear HO311; have HI0 := n0_; have HB := n1_; have HK := n2_; have HO322 := n3_; clear n0_ n1_ n2_ n3_; clear ho hb hg hat))
   go_ret
   exact ⟨_, z5_, by (with_reducible repeat (first | apply Kd.R_alloc | apply Kd.R_drewN | apply Kd.R_drew)); exact HO322.out, z4_, z6_, z2_⟩
  ·rw [if_neg c6] at H
   exact absurd H (by simp)
 ·rw [if_neg c4] at H
  have c4b0 : (t314 == 0) = false := beq_eq_false_iff_ne.mpr c4
  have c4b1 : (t314 != 0) = true := bne_iff_ne.mpr c4
  by_cases c11 : t314 = 1
  ·rw [if_pos c11] at H
   have c11b0 : (t314 == 1) = true := beq_iff_eq.mpr c11
   have c11b1 : (t314 != 1) = false := bne_eq_false_iff_eq.mpr c11
   clear c11
   obtain ⟨y323, hy323⟩ : ∃ y_ : List Int, y_ = (([1000000000, 1000000001] : List Int)) := ⟨_, rfl⟩
   replace H : ((spec_l1PickInt.f s0_0 t315 t316 y323).bind fun bt326 => (if t309.length < 8796093022208 then (some ((t309 ++ [(⟨999, bt326.1⟩ : S147)]), bt326.2.1, bt326.2.2)) else (none))) = some (r1, r2, r3) := by first | (rw [hy323]; with_reducible exact H) | (have H2_ := (Option.bind_some _ _).symm.trans H; rw [hy323]; with_reducible exact H2_) | (have H2_ := (Option.bind_some _ _).symm.trans H; with_reducible exact H2_) | with_reducible exact H | (rw [hy323]; exact H) | exact H
   have Ny323 := q_ hy323
   clear hy323
   replace H := Option.bind_eq_some_iff.mp H
   obtain ⟨⟨t326, t327, t328⟩, A120, H⟩ := H
   replace H : (if t309.length < 8796093022208 then (some ((t309 ++ [(⟨999, t326⟩ : S147)]), t327, t328)) else (none)) = some (r1, r2, r3) := H
   have A12 := q_ A120
   clear A120
   by_cases c13 : t309.length < 8796093022208
   ·rw [if_pos c13] at H
    have LMc13 := q_ c13
    clear c13
    obtain ⟨y329, hy329⟩ : ∃ y_ : List (S147), y_ = (t309 ++ [(⟨999, t326⟩ : S147)]) := ⟨_, rfl⟩
    replace H : (some (y329, t327, t328)) = some (r1, r2, r3) := by first | (rw [hy329]; with_reducible exact H) | (have H2_ := (Option.bind_some _ _).symm.trans H; rw [hy329]; with_reducible exact H2_) | (have H2_ := (Option.bind_some _ _).symm.trans H; with_reducible exact H2_) | with_reducible exact H | (rw [hy329]; exact H) | exact H
    have Ny329 := q_ hy329
    clear hy329
    simp only [Option.some.injEq, Prod.mk.injEq] at H
    obtain ⟨rfl, rfl, rfl⟩ := H
    go_enter Try.func133, Try.ntmps133
    go_wp2_with (first | ((with_reducible refine gate_callee (f := 174) rfl ?_); refine goesL_ (some 5) rfl rfl Try.func174 (by kernel_rfl) rfl #[.pointer (some ⟨g, 0, none⟩), .int .i64 8] rfl z1_ ?_; (with_reducible refine (spec_l1DrawMap.calls k g s0_0 s0_1 s0_2 8 t309 t312 t313 w0 _ ?side1 ?side2 A2.out).mono ?_); (case side1 => exact z146_); (case side2 => exact z147_); rintro e w14 ⟨v310, rfl, ho0, hi, hb, hk⟩; refine ⟨_, rfl, ?_⟩; have n0_ := q_ (Kd.R_lower ho0 (keep_size (w := w) (g := g) (row := none) z2_)); have n1_ := q_ (KeepBut.trans z2_ hk (.inl rfl)); have n2_ := q_ (hb); have n3_ := q_ (hi); clear HK; clear HB; clear HI0; have HO311 := n0_; have HK := n1_; have HB := n2_; have HI0 := n3_; clear n0_ n1_ n2_ n3_; (try clear hb); (try clear hb2); (try clear hk); (try clear hi); (try clear ho0)) | ((with_reducible refine gate_callee (f := 126) rfl ?_); refine goesL_ (some 7) rfl rfl Try.func126 (by kernel_rfl) rfl #[.pointer (some ⟨g, 0, none⟩), .int .i64 15] rfl z1_ ?_; (with_reducible refine (spec_l1Below.calls g s0_0 t312 t313 15 t314 t315 t316 w0 _ ?side1 ?side2 A3.out).mono ?_); (case side1 => exact z146_); (case side2 => exact z147_); rintro e w15 ⟨rfl, hi, hb, hk⟩; refine ⟨_, rfl, ?_⟩; have n0_ := q_ (Kd.R_mono (Kd.R_keep (IsS189.apart (show IsS189 w0 _ g s0_0 t312 t313 from z4_) z55_ (by decide)) hk (fun _ h => h.2)) (fun _ h => h.1)); have n1_ := q_ (KeepBut.trans z2_ hk (.inl rfl)); have n2_ := q_ (hb); have n3_ := q_ (hi); clear HO311; clear HK; clear HB; clear HI0; have HO311 := n0_; have HK := n1_; have HB := n2_; have HI0 := n3_; clear n0_ n1_ n2_ n3_; (try clear hb); (try clear hb2); (try clear hk); (try clear hi)) | ((with_reducible refine gate_dst (N := 20) rfl ?_); refine Kd.R_lit (Kd.int .i64) _ 3 ?hg (N := 20) ?hd (xs := ([1000000000, 1000000001] : List Int)) (inner := [.int .i64 1000000000, .int .i64 1000000001]) (ok := fun _ => True) (okp := fun _ => True) ?hr ?hp (fun _ hk => hk) trivial (Below.refl _ _) (Nat.le_refl _) (by simp) ?_; (case hd => rfl); (case hg => rfl); (case hr => exact z148_); (case hp => exact (Reps.one (show Kd.M (Kd.int .i64) _ _ _ 1000000000 [.int .i64 1000000000] from rfl) (Reps.one (show Kd.M (Kd.int .i64) _ _ _ 1000000001 [.int .i64 1000000001] from rfl) (Reps.none _ _)))); intro v324 w16 ho17 hb hg_ hnew_; clear hg_ hnew_; (first | rw [← Ny323.out] at ho17 | (simp only [Int.reduceToNat] at ho17; rw [← Ny323.out] at ho17)); have n0_ := q_ (Kd.R_below z55_ hb); have n1_ := q_ (Kd.R_lower ho17 (keep_size (w := w) (g := g) (row := none) z2_)); have n2_ := q_ (IsS189.below z4_ hb); have n3_ := q_ (KeepBut.trans z2_ (KeepBut.of_below hb g none) (.inl rfl)); have n4_ := q_ (below_step z6_ hb); clear HO311; clear HI0; clear HK; clear HB; have HO311 := n0_; have HO325 := n1_; have HI0 := n2_; have HK := n3_; have HB := n4_; clear n0_ n1_ n2_ n3_ n4_; clear hb ho17; obtain ⟨Ao18, co18, eo18⟩ := Kd.R_slice HO325.out; subst eo18) | ((with_reducible refine gate_callee (f := 167) rfl ?_); refine goesL_ (some 21) rfl rfl Try.func167 (by kernel_rfl) rfl #[.pointer (some ⟨g, 0, none⟩), .slice Ao18 y323.length co18] rfl z1_ ?_; (with_reducible refine (spec_l1PickInt.calls g s0_0 t315 t316 _ _ y323 t326 t327 t328 w0 _ ?side1 ?side2 ?side3 ?side4 ?side5 A12.out).mono ?_); (case side1 => exact z146_); (case side2 => exact z147_); (case side3 => repeat (first | exact (Kd.R_reads' HO325.out).2.2 | (with_reducible refine Kd.C_alloc ?_ _) | (with_reducible refine Kd.C_drewN ?_ _) | (with_reducible refine Kd.C_drew ?_))); (case side4 => exact (Kd.R_reads' HO325.out).2.1); (case side5 => exact far_slice (IsS189.own_ne HI0.out HO325.out (by decide))); rintro e w19 ⟨rfl, hi, hb, hk⟩; refine ⟨_, rfl, ?_⟩; have n0_ := q_ (Kd.R_mono (Kd.R_keep (IsS189.apart (show IsS189 w0 _ g s0_0 t315 t316 from z4_) z55_ (by decide)) hk (fun _ h => h.2)) (fun _ h => h.1)); have n1_ := q_ (Kd.R_mono (Kd.R_keep (IsS189.apart (show IsS189 w0 _ g s0_0 t315 t316 from z4_) z104_ (by decide)) hk (fun _ h => h.2)) (fun _ h => h.1)); have n2_ := q_ (KeepBut.trans z2_ hk (.inl rfl)); have n3_ := q_ (hb); have n4_ := q_ (hi); clear HO311; clear HO325; clear HK; clear HB; clear HI0; have HO311 := n0_; have HO325 := n1_; have HK := n2_; have HB := n3_; have HI0 := n4_; clear n0_ n1_ n2_ n3_ n4_; (try clear hb); (try clear hb2); (try clear hk); (try clear hi)) | ((with_reducible refine gate_builtin (b := .append) (xs := #[.tmp 18, .tmp 23]) rfl ?_); at_builtin; refine Kd.R_append k147 w.heap.size rfl (.tmp 18) (.tmp 23) 42 147 (.agg #[(.int .i64 0), (.int .i64 0)]) 16 rfl Try.underlying42 info147 rfl (by decide) (by omega) v310 t309 (⟨999, t326⟩ : S147) [.int .i64 999, .int .i64 t326] (fun _ => True) (fun _ => False) rfl rfl ?aP (fun _ hk => hk.elim) ?aF ?aO (Below.refl _ _) ?aS ?aL ?_; (case aP => exact k147_mkM _ _ _ (⟨999, t326⟩ : S147)); (case aF => exact z177_); (case aO => exact z55_); (case aS => exact (keep_size (w := w) (g := g) (row := none) z2_)); (case aL => have := LMc13.out; omega); intro v330 w20 ho hb hg hat; rw [← Ny329.out] at ho; have n0_ := q_ (IsS189.grown (show IsS189 w0 _ g s0_0 t327 t328 from z4_) hg (IsS189.own_ne HI0.out HO311.out (by decide))); have n1_ := q_ (Kd.R_over' z104_ (Kd.R_typed z55_) (by decide) hg); have n2_ := q_ (below_weaken z6_ HL.out hb); have n3_ := q_ (KeepBut.trans z2_ (KeepBut.of_grown hg g) (Kd.R_base2 HO311.out)); have n4_ := q_ (ho); clear HI0; clear HO325; clear HB; clear HK; clear HO311; have HI0 := n0_; have HO325 := n1_; have HB := n2_; have HK := n3_; have HO331 := n4_; clear n0_ n1_ n2_ n3_ n4_; clear ho hb hg hat))
    go_ret
    exact ⟨_, z5_, by (with_reducible repeat (first | apply Kd.R_alloc | apply Kd.R_drewN | apply Kd.R_drew)); exact HO331.out, z4_, z6_, z2_⟩
   ·rw [if_neg c13] at H
    exact absurd H (by simp)
  ·rw [if_neg c11] at H
   have c11b0 : (t314 == 1) = false := beq_eq_false_iff_ne.mpr c11
   have c11b1 : (t314 != 1) = true := bne_iff_ne.mpr c11
   simp only [Option.some.injEq, Prod.mk.injEq] at H
   obtain ⟨rfl, rfl, rfl⟩ := H
   go_enter Try.func133, Try.ntmps133
   go_wp2_with (first | ((with_reducible refine gate_callee (f := 174) rfl ?_); refine goesL_ (some 5) rfl rfl Try.func174 (by kernel_rfl) rfl #[.pointer (some ⟨g, 0, none⟩), .int .i64 8] rfl z1_ ?_; (with_reducible refine (spec_l1DrawMap.calls k g s0_0 s0_1 s0_2 8 t309 t312 t313 w0 _ ?side1 ?side2 A2.out).mono ?_); (case side1 => exact z146_); (case side2 => exact z147_); rintro e w21 ⟨v310, rfl, ho0, hi, hb, hk⟩; refine ⟨_, rfl, ?_⟩; have n0_ := q_ (Kd.R_lower ho0 (keep_size (w := w) (g := g) (row := none) z2_)); have n1_ := q_ (KeepBut.trans z2_ hk (.inl rfl)); have n2_ := q_ (hb); have n3_ := q_ (hi); clear HK; clear HB; clear HI0; have HO311 := n0_; have HK := n1_; have HB := n2_; have HI0 := n3_; clear n0_ n1_ n2_ n3_; (try clear hb); (try clear hb2); (try clear hk); (try clear hi); (try clear ho0)) | ((with_reducible refine gate_callee (f := 126) rfl ?_); refine goesL_ (some 7) rfl rfl Try.func126 (by kernel_rfl) rfl #[.pointer (some ⟨g, 0, none⟩), .int .i64 15] rfl z1_ ?_; (with_reducible refine (spec_l1Below.calls g s0_0 t312 t313 15 t314 t315 t316 w0 _ ?side1 ?side2 A3.out).mono ?_); (case side1 => exact z146_); (case side2 => exact z147_); rintro e w22 ⟨rfl, hi, hb, hk⟩; refine ⟨_, rfl, ?_⟩; have n0_ := q_ (Kd.R_mono (Kd.R_keep (IsS189.apart (show IsS189 w0 _ g s0_0 t312 t313 from z4_) z55_ (by decide)) hk (fun _ h => h.2)) (fun _ h => h.1)); have n1_ := q_ (KeepBut.trans z2_ hk (.inl rfl)); have n2_ := q_ (hb); have n3_ := q_ (hi); clear HO311; clear HK; clear HB; clear HI0; have HO311 := n0_; have HK := n1_; have HB := n2_; have HI0 := n3_; clear n0_ n1_ n2_ n3_; (try clear hb); (try clear hb2); (try clear hk); (try clear hi)))
   go_ret
   exact ⟨_, z5_, z55_, z4_, z6_, z2_⟩

/-! ### spec_l1DrawMsg: function 175 -/
def spec_l1DrawMsg.j0 : Nat → Bool → List Int → Int → Int → Int → Int → Int → Option (Int × Int × Int × Int × Int)
 | 0, _, _, _, _, _, _, _ => none
 | k + 1, x17, x1000, x1001, x1002, x343000, x343001, x343002 => if x17 = true then ((spec_l1Below.f x1000 x1001 x1002 99).bind fun bt343 => ((spec_l1PickInt.f x1000 bt343.2.1 bt343.2.2 (([1, (-2), 5, 700, 1000000000, (-1000000000), bt343.1] : List Int))).bind fun bt349 => (some (x343000, x343001, bt349.1, bt349.2.1, bt349.2.2)))) else (some (x343000, x343001, x343002, x1001, x1002))
def spec_l1DrawMsg.f (k : Nat) (s0_0 : List Int) (s0_1 : Int) (s0_2 : Int) : Option (Int × Int × Int × Int × Int) := (spec_l1PickInt.f s0_0 s0_1 s0_2 (([1, 1, 1, 2, 3, 3, 4] : List Int))).bind fun bt336 => ((spec_l1DrawKey.f s0_0 bt336.2.1 bt336.2.2).bind fun bt339 => (if bt336.1 = 1 then (spec_l1DrawMsg.j0 k true s0_0 bt339.2.1 bt339.2.2 bt336.1 bt339.1 0) else (spec_l1DrawMsg.j0 k (bt336.1 == 3) s0_0 bt339.2.1 bt339.2.2 bt336.1 bt339.1 0)))
theorem spec_l1DrawMsg.mono_l : ∀ k, (∀ y0 y1 y2 y3 y4 y5 y6, LeO (spec_l1DrawMsg.j0 k y0 y1 y2 y3 y4 y5 y6) (spec_l1DrawMsg.j0 (k + 1) y0 y1 y2 y3 y4 y5 y6))
 | 0 => fun _ _ _ _ _ _ _ r h => by simp [spec_l1DrawMsg.j0] at h
 | k + 1 => by
  have ih0 := spec_l1DrawMsg.mono_l k
  ·intro y0 y1 y2 y3 y4 y5 y6
   unfold spec_l1DrawMsg.j0
   repeat' first
   | (with_reducible exact ih0 _ _ _ _ _ _ _)
   | (with_reducible exact LeO.refl _)
   | (with_reducible exact LeO.none _)
   | (with_reducible refine LeO.ite ?_ ?_)
   | (with_reducible refine LeO.bind ?_ (fun _ => ?_))
   | exact ih0 _ _ _ _ _ _ _
   | exact LeO.none _
   | refine LeO.ite ?_ ?_
   | refine LeO.bind ?_ (fun _ => ?_)
theorem spec_l1DrawMsg.mono : ∀ a0 a1 a2 k, LeO (spec_l1DrawMsg.f k a0 a1 a2) (spec_l1DrawMsg.f (k + 1) a0 a1 a2) := by
 intro a0 a1 a2 k
 have ih0 := spec_l1DrawMsg.mono_l k
 unfold spec_l1DrawMsg.f
 repeat' first
   | (with_reducible exact ih0 _ _ _ _ _ _ _)
   | (with_reducible exact LeO.refl _)
   | (with_reducible exact LeO.none _)
   | (with_reducible refine LeO.ite ?_ ?_)
   | (with_reducible refine LeO.bind ?_ (fun _ => ?_))
   | exact ih0 _ _ _ _ _ _ _
   | exact LeO.none _
   | refine LeO.ite ?_ ?_
   | refine LeO.bind ?_ (fun _ => ?_)
set_option maxHeartbeats 8000000 in
set_option maxRecDepth 100000 in
theorem spec_l1DrawMsg.calls (k : Nat) (g : Nat) (s0_0 : List Int) (s0_1 : Int) (s0_2 : Int) (r1 : Int) (r2 : Int) (r3 : Int) (r4 : Int) (r5 : Int) (w0 w : World) (hI : IsS189 w0 w g s0_0 s0_1 s0_2) (hB : Below w0.heap.size w0 w) (h : spec_l1DrawMsg.f k s0_0 s0_1 s0_2 = some (r1, r2, r3, r4, r5)) :
  Calls Try.prog 175 #[.pointer (some ⟨g, 0, none⟩)] w fun e w' => e = .returned (.agg #[.int .i64 r1, .int .i64 r2, .int .i64 r3]) ∧ IsS189 w0 w' g s0_0 r4 r5 ∧ Below w0.heap.size w0 w' ∧ KeepBut w w' g none := by
 have hu67 := Try.underlying67
 have HI0 := q_ hI
 have HK := q_ (KeepBut.refl w g none)
 have HL := q_ hB.size
 clear hI
 have HW0 := q_ hB.size
 have HB := q_ hB
 clear hB
 have H : ((spec_l1PickInt.f s0_0 s0_1 s0_2 (([1, 1, 1, 2, 3, 3, 4] : List Int))).bind fun bt336 => ((spec_l1DrawKey.f s0_0 bt336.2.1 bt336.2.2).bind fun bt339 => (if bt336.1 = 1 then (spec_l1DrawMsg.j0 k true s0_0 bt339.2.1 bt339.2.2 bt336.1 bt339.1 0) else (spec_l1DrawMsg.j0 k (bt336.1 == 3) s0_0 bt339.2.1 bt339.2.2 bt336.1 bt339.1 0)))) = some (r1, r2, r3, r4, r5) := h
 clear h
 obtain ⟨y333, hy333⟩ : ∃ y_ : List Int, y_ = (([1, 1, 1, 2, 3, 3, 4] : List Int)) := ⟨_, rfl⟩
 replace H : ((spec_l1PickInt.f s0_0 s0_1 s0_2 y333).bind fun bt336 => ((spec_l1DrawKey.f s0_0 bt336.2.1 bt336.2.2).bind fun bt339 => (if bt336.1 = 1 then (spec_l1DrawMsg.j0 k true s0_0 bt339.2.1 bt339.2.2 bt336.1 bt339.1 0) else (spec_l1DrawMsg.j0 k (bt336.1 == 3) s0_0 bt339.2.1 bt339.2.2 bt336.1 bt339.1 0)))) = some (r1, r2, r3, r4, r5) := by first | (rw [hy333]; with_reducible exact H) | (have H2_ := (Option.bind_some _ _).symm.trans H; rw [hy333]; with_reducible exact H2_) | (have H2_ := (Option.bind_some _ _).symm.trans H; with_reducible exact H2_) | with_reducible exact H | (rw [hy333]; exact H) | exact H
 have Ny333 := q_ hy333
 clear hy333
 replace H := Option.bind_eq_some_iff.mp H
 obtain ⟨⟨t336, t337, t338⟩, A20, H⟩ := H
 replace H : ((spec_l1DrawKey.f s0_0 t337 t338).bind fun bt339 => (if t336 = 1 then (spec_l1DrawMsg.j0 k true s0_0 bt339.2.1 bt339.2.2 t336 bt339.1 0) else (spec_l1DrawMsg.j0 k (t336 == 3) s0_0 bt339.2.1 bt339.2.2 t336 bt339.1 0))) = some (r1, r2, r3, r4, r5) := H
 have A2 := q_ A20
 clear A20
 replace H := Option.bind_eq_some_iff.mp H
 obtain ⟨⟨t339, t340, t341⟩, A30, H⟩ := H
 replace H : (if t336 = 1 then (spec_l1DrawMsg.j0 k true s0_0 t340 t341 t336 t339 0) else (spec_l1DrawMsg.j0 k (t336 == 3) s0_0 t340 t341 t336 t339 0)) = some (r1, r2, r3, r4, r5) := H
 have A3 := q_ A30
 clear A30
 have HC4 := q_ H
 clear H
 go_enter Try.func175, Try.ntmps175
 go_upto_region 2 with (first | ((with_reducible refine gate_dst (N := 2) rfl ?_); refine box_event ?hg (N := 2) ?hd (cs := #[.int .i64 0, .int .i64 0, .int .i64 0]) (t := 67) ?hr ?_; (case hd => rfl); (case hg => rfl); (case hr => exact z148_); intro gb332 hg w5 hbox hb; have n0_ := q_ (IsS189.below z4_ hb); have n1_ := q_ (KeepBut.trans z2_ (KeepBut.of_below hb g none) (.inl rfl)); have n2_ := q_ (below_step z6_ hb); have n3_ := q_ (hbox); have n4_ := q_ ((z120_ : w.heap.size ≤ gb332)); have n5_ := q_ ((Nat.le_trans HW0.out (z120_ : w.heap.size ≤ gb332) : w0.heap.size ≤ gb332)); have n6_ := q_ ((z126_ : g ≠ gb332)); have n7_ := q_ ((z127_ : gb332 ≠ g)); clear HI0; clear HK; clear HB; have HI0 := n0_; have HK := n1_; have HB := n2_; have BK332 := n3_; have GW332 := n4_; have GE332 := n5_; have NB0_332 := n6_; have NB332_0 := n7_; clear n0_ n1_ n2_ n3_ n4_ n5_ n6_ n7_; clear hb hbox hg) | ((with_reducible refine gate_dst (N := 5) rfl ?_); refine Kd.R_lit (Kd.int .i64) _ 3 ?hg (N := 5) ?hd (xs := ([1, 1, 1, 2, 3, 3, 4] : List Int)) (inner := [.int .i64 1, .int .i64 1, .int .i64 1, .int .i64 2, .int .i64 3, .int .i64 3, .int .i64 4]) (ok := fun _ => True) (okp := fun _ => True) ?hr ?hp (fun _ hk => hk) trivial (Below.refl _ _) (Nat.le_refl _) (by simp) ?_; (case hd => rfl); (case hg => rfl); (case hr => exact z148_); (case hp => exact (Reps.one (show Kd.M (Kd.int .i64) _ _ _ 1 [.int .i64 1] from rfl) (Reps.one (show Kd.M (Kd.int .i64) _ _ _ 1 [.int .i64 1] from rfl) (Reps.one (show Kd.M (Kd.int .i64) _ _ _ 1 [.int .i64 1] from rfl) (Reps.one (show Kd.M (Kd.int .i64) _ _ _ 2 [.int .i64 2] from rfl) (Reps.one (show Kd.M (Kd.int .i64) _ _ _ 3 [.int .i64 3] from rfl) (Reps.one (show Kd.M (Kd.int .i64) _ _ _ 3 [.int .i64 3] from rfl) (Reps.one (show Kd.M (Kd.int .i64) _ _ _ 4 [.int .i64 4] from rfl) (Reps.none _ _))))))))); intro v334 w6 ho7 hb hg_ hnew_; clear hg_ hnew_; (first | rw [← Ny333.out] at ho7 | (simp only [Int.reduceToNat] at ho7; rw [← Ny333.out] at ho7)); have n0_ := q_ (Kd.R_lower ho7 (keep_size (w := w) (g := g) (row := none) z51_)); have n1_ := q_ (IsS189.below z47_ hb); have n2_ := q_ (blk_below (g := gb332) (o := .cells #[.int .i64 0, .int .i64 0, .int .i64 0] 67 (0, 0)) z54_ hb); have n3_ := q_ (KeepBut.trans z51_ (KeepBut.of_below hb g none) (.inl rfl)); have n4_ := q_ (below_step z84_ hb); clear HI0; clear BK332; clear HK; clear HB; have HO335 := n0_; have HI0 := n1_; have BK332 := n2_; have HK := n3_; have HB := n4_; clear n0_ n1_ n2_ n3_ n4_; clear hb ho7; obtain ⟨Ao8, co8, eo8⟩ := Kd.R_slice HO335.out; subst eo8) | ((with_reducible refine gate_callee (f := 167) rfl ?_); refine goesL_ (some 6) rfl rfl Try.func167 (by kernel_rfl) rfl #[.pointer (some ⟨g, 0, none⟩), .slice Ao8 y333.length co8] rfl z1_ ?_; (with_reducible refine (spec_l1PickInt.calls g s0_0 s0_1 s0_2 _ _ y333 t336 t337 t338 w0 _ ?side1 ?side2 ?side3 ?side4 ?side5 A2.out).mono ?_); (case side1 => exact z169_); (case side2 => exact z171_); (case side3 => repeat (first | exact (Kd.R_reads' HO335.out).2.2 | (with_reducible refine Kd.C_alloc ?_ _) | (with_reducible refine Kd.C_drewN ?_ _) | (with_reducible refine Kd.C_drew ?_))); (case side4 => exact (Kd.R_reads' HO335.out).2.1); (case side5 => exact far_slice (IsS189.own_ne HI0.out HO335.out (by decide))); rintro e w9 ⟨rfl, hi, hb, hk⟩; refine ⟨_, rfl, ?_⟩; have n0_ := q_ (KeepBut.blk hk (g' := gb332) (o := .cells #[.int .i64 0, .int .i64 0, .int .i64 0] 67 (0, 0)) z54_ NB332_0.out (by simp)); have n1_ := q_ (Kd.R_mono (Kd.R_keep (IsS189.apart (show IsS189 w0 _ g s0_0 s0_1 s0_2 from z47_) z91_ (by decide)) hk (fun _ h => h.2)) (fun _ h => h.1)); have n2_ := q_ (KeepBut.trans z51_ hk (.inl rfl)); have n3_ := q_ (hb); have n4_ := q_ (hi); clear BK332; clear HO335; clear HK; clear HB; clear HI0; have BK332 := n0_; have HO335 := n1_; have HK := n2_; have HB := n3_; have HI0 := n4_; clear n0_ n1_ n2_ n3_ n4_; (try clear hb); (try clear hb2); (try clear hk); (try clear hi)) | ((with_reducible refine gate_callee (f := 141) rfl ?_); refine goesL_ (some 8) rfl rfl Try.func141 (by kernel_rfl) rfl #[.pointer (some ⟨g, 0, none⟩)] rfl z1_ ?_; (with_reducible refine (spec_l1DrawKey.calls g s0_0 t337 t338 t339 t340 t341 w0 _ ?side1 ?side2 A3.out).mono ?_); (case side1 => exact z169_); (case side2 => exact z171_); rintro e w10 ⟨rfl, hi, hb, hk⟩; refine ⟨_, rfl, ?_⟩; have n0_ := q_ (KeepBut.blk hk (g' := gb332) (o := .cells #[.int .i64 0, .int .i64 0, .int .i64 0] 67 (0, 0)) z54_ NB332_0.out (by simp)); have n1_ := q_ (Kd.R_mono (Kd.R_keep (IsS189.apart (show IsS189 w0 _ g s0_0 t337 t338 from z47_) z91_ (by decide)) hk (fun _ h => h.2)) (fun _ h => h.1)); have n2_ := q_ (KeepBut.trans z51_ hk (.inl rfl)); have n3_ := q_ (hb); have n4_ := q_ (hi); clear BK332; clear HO335; clear HK; clear HB; clear HI0; have BK332 := n0_; have HO335 := n1_; have HK := n2_; have HB := n3_; have HI0 := n4_; clear n0_ n1_ n2_ n3_ n4_; (try clear hb); (try clear hb2); (try clear hk); (try clear hi)) | ((with_reducible refine gate_dst (N := 3) rfl ?_); refine box_event ?hg (N := 3) ?hd (cs := #[.int .i64 0, .int .i64 0, .int .i64 0]) (t := 67) ?hr ?_; (case hd => rfl); (case hg => rfl); (case hr => exact z148_); intro gb342 hg w11 hbox hb; have n0_ := q_ (Kd.R_below z91_ hb); have n1_ := q_ (IsS189.below z47_ hb); have n2_ := q_ (blk_below (g := gb332) (o := .cells #[.int .i64 0, .int .i64 0, .int .i64 0] 67 (0, 0)) z54_ hb); have n3_ := q_ (KeepBut.trans z51_ (KeepBut.of_below hb g none) (.inl rfl)); have n4_ := q_ (below_step z84_ hb); have n5_ := q_ (hbox); have n6_ := q_ ((z139_ : w.heap.size ≤ gb342)); have n7_ := q_ ((Nat.le_trans HW0.out (z139_ : w.heap.size ≤ gb342) : w0.heap.size ≤ gb342)); have n8_ := q_ ((by rw [hg]; exact Nat.ne_of_lt (blk_lt (g := gb332) (o := .cells #[.int .i64 0, .int .i64 0, .int .i64 0] 67 (0, 0)) z54_) : gb332 ≠ gb342)); have n9_ := q_ ((by rw [hg]; exact Nat.ne_of_gt (blk_lt (g := gb332) (o := .cells #[.int .i64 0, .int .i64 0, .int .i64 0] 67 (0, 0)) z54_) : gb342 ≠ gb332)); have n10_ := q_ ((by rw [hg]; exact Nat.ne_of_lt (IsS189.lt (show IsS189 w0 _ g s0_0 t340 t341 from z47_)) : g ≠ gb342)); have n11_ := q_ ((by rw [hg]; exact Nat.ne_of_gt (IsS189.lt (show IsS189 w0 _ g s0_0 t340 t341 from z47_)) : gb342 ≠ g)); clear HO335; clear HI0; clear BK332; clear HK; clear HB; have HO335 := n0_; have HI0 := n1_; have BK332 := n2_; have HK := n3_; have HB := n4_; have BK342 := n5_; have GW342 := n6_; have GE342 := n7_; have NB332_342 := n8_; have NB342_332 := n9_; have NB0_342 := n10_; have NB342_0 := n11_; clear n0_ n1_ n2_ n3_ n4_ n5_ n6_ n7_ n8_ n9_ n10_ n11_; clear hb hbox hg; have hnb12 := NB342_332.out; have hnc12 := NB332_342.out; have hnb13 := NB342_0.out; have hnc13 := NB0_342.out; obtain ⟨hcz14_0, hcz14_1, hcz14_2, hfz14_0, hfz14_1, hfz14_2⟩ := cs3_ BK342.out))
 (try simp only [Act.put, List.setIfInBounds_toArray, List.set_cons_zero, List.set_cons_succ])
 go_cut [17] (fun v17 wc => ∃ (kq : Nat) (x17_3 : Bool), v17 = .bool x17_3 ∧ Aside0 (spec_l1DrawMsg.j0 kq x17_3 s0_0 t340 t341 t336 t339 0 = some (r1, r2, r3, r4, r5)) ∧ Aside0 (kq ≤ k) ∧ Aside0 (wc.heap[gb332]? = some (.cells #[.int .i64 0, .int .i64 0, .int .i64 0] 67 (0, 0))) ∧ Aside0 (wc.heap[gb342]? = some (.cells #[.int .i64 t336, .int .i64 t339, .int .i64 0] 67 (0, 0))) ∧ Aside0 (IsS189 w0 wc g s0_0 t340 t341) ∧ Aside0 (KeepBut w wc g none) ∧ Aside0 (Below w0.heap.size w0 wc))
 case first =>
  have H := HC4.out
  clear HC4
  by_cases c15 : t336 = 1
  ·rw [if_pos c15] at H
   have c15b0 : (t336 == 1) = true := beq_iff_eq.mpr c15
   have c15b1 : (t336 != 1) = false := bne_eq_false_iff_eq.mpr c15
   clear c15
   (first | rw [c15b0] | (simp only [i64_w, i32_w]; rw [c15b0]) | skip)
   have H' := q_ H
   clear H
   have hnb16 := NB342_332.out
   have hnc16 := NB332_342.out
   have hnb17 := NB342_0.out
   have hnc17 := NB0_342.out
   obtain ⟨hcz18_0, hcz18_1, hcz18_2, hfz18_0, hfz18_1, hfz18_2⟩ := cs3_ BK342.out
   go_wp2
   go_meet
   case rel => exact ⟨_, (true), z7_, H', ⟨z88_⟩, ⟨z57_⟩, ⟨z44_⟩, ⟨z35_⟩, ⟨z31_⟩, ⟨z52_⟩⟩
  ·rw [if_neg c15] at H
   have c15b0 : (t336 == 1) = false := beq_eq_false_iff_ne.mpr c15
   have c15b1 : (t336 != 1) = true := bne_iff_ne.mpr c15
   (first | rw [c15b0] | (simp only [i64_w, i32_w]; rw [c15b0]) | skip)
   have H' := q_ H
   clear H
   have hnb19 := NB342_332.out
   have hnc19 := NB332_342.out
   have hnb20 := NB342_0.out
   have hnc20 := NB0_342.out
   obtain ⟨hcz21_0, hcz21_1, hcz21_2, hfz21_0, hfz21_1, hfz21_2⟩ := cs3_ BK342.out
   go_wp2
   go_meet
   case rel => exact ⟨_, ((t336 == 3)), z7_, H', ⟨z88_⟩, ⟨z57_⟩, ⟨z44_⟩, ⟨z35_⟩, ⟨z31_⟩, ⟨z52_⟩⟩
 case rest =>
  clear HC4
  try clear c1
  try clear c2
  try clear p2
  try clear c12
  try clear c13
  try clear c14
  try clear c15
  try clear c15b0
  try clear c15b1
  try clear c16
  try clear c17
  try clear c19
  try clear c20
  try clear hcz14_0
  try clear hcz14_1
  try clear hcz14_2
  try clear hcz18_0
  try clear hcz18_1
  try clear hcz18_2
  try clear hcz21_0
  try clear hcz21_1
  try clear hcz21_2
  try clear hfz14_0
  try clear hfz14_1
  try clear hfz14_2
  try clear hfz18_0
  try clear hfz18_1
  try clear hfz18_2
  try clear hfz21_0
  try clear hfz21_1
  try clear hfz21_2
  obtain ⟨kq, x17_3, rfl, HA, HJ3, BK332, BK342, HI0, HK, HB⟩ := hcut
  cases kq with
  | zero => exact absurd HA.out (by simp [spec_l1DrawMsg.j0])
  | succ kj3 =>
   have H := HA.out
   clear HA
   simp only [spec_l1DrawMsg.j0] at H
   by_cases c22 : x17_3 = true
   ·subst c22
    have H1 : ((spec_l1Below.f s0_0 t340 t341 99).bind fun bt343 => ((spec_l1PickInt.f s0_0 bt343.2.1 bt343.2.2 (([1, (-2), 5, 700, 1000000000, (-1000000000), bt343.1] : List Int))).bind fun bt349 => (some (t336, t339, bt349.1, bt349.2.1, bt349.2.2)))) = some (r1, r2, r3, r4, r5) := z58_
    clear H
    have H := H1
    clear H1
    replace H := Option.bind_eq_some_iff.mp H
    obtain ⟨⟨t343, t344, t345⟩, A230, H⟩ := H
    replace H : ((spec_l1PickInt.f s0_0 t344 t345 (([1, (-2), 5, 700, 1000000000, (-1000000000), t343] : List Int))).bind fun bt349 => (some (t336, t339, bt349.1, bt349.2.1, bt349.2.2))) = some (r1, r2, r3, r4, r5) := H
    have A23 := q_ A230
    clear A230
    obtain ⟨y346, hy346⟩ : ∃ y_ : List Int, y_ = (([1, (-2), 5, 700, 1000000000, (-1000000000), t343] : List Int)) := ⟨_, rfl⟩
    replace H : ((spec_l1PickInt.f s0_0 t344 t345 y346).bind fun bt349 => (some (t336, t339, bt349.1, bt349.2.1, bt349.2.2))) = some (r1, r2, r3, r4, r5) := by first | (rw [hy346]; with_reducible exact H) | (have H2_ := (Option.bind_some _ _).symm.trans H; rw [hy346]; with_reducible exact H2_) | (have H2_ := (Option.bind_some _ _).symm.trans H; with_reducible exact H2_) | with_reducible exact H | (rw [hy346]; exact H) | exact H
    have Ny346 := q_ hy346
    clear hy346
    replace H := Option.bind_eq_some_iff.mp H
    obtain ⟨⟨t349, t350, t351⟩, A240, H⟩ := H
    replace H : (some (t336, t339, t349, t350, t351)) = some (r1, r2, r3, r4, r5) := H
    have A24 := q_ A240
    clear A240
    simp only [Option.some.injEq, Prod.mk.injEq] at H
    obtain ⟨rfl, rfl, rfl, rfl, rfl⟩ := H
    go_wp2_with (first | ((with_reducible refine gate_callee (f := 126) rfl ?_); refine goesL_ (some 20) rfl rfl Try.func126 (by kernel_rfl) rfl #[.pointer (some ⟨g, 0, none⟩), .int .i64 99] rfl z1_ ?_; (with_reducible refine (spec_l1Below.calls g s0_0 t340 t341 99 t343 t344 t345 w0 _ ?side1 ?side2 A23.out).mono ?_); (case side1 => exact z167_); (case side2 => exact z168_); rintro e w25 ⟨rfl, hi, hb, hk⟩; refine ⟨_, rfl, ?_⟩; have n0_ := q_ (KeepBut.blk hk (g' := gb332) (o := .cells #[.int .i64 0, .int .i64 0, .int .i64 0] 67 (0, 0)) z54_ NB332_0.out (by simp)); have n1_ := q_ (KeepBut.blk hk (g' := gb342) (o := .cells #[.int .i64 t336, .int .i64 t339, .int .i64 0] 67 (0, 0)) z86_ NB342_0.out (by simp)); have n2_ := q_ (KeepBut.trans z31_ hk (.inl rfl)); have n3_ := q_ (hb); have n4_ := q_ (hi); clear BK332; clear BK342; clear HK; clear HB; clear HI0; have BK332 := n0_; have BK342 := n1_; have HK := n2_; have HB := n3_; have HI0 := n4_; clear n0_ n1_ n2_ n3_ n4_; (try clear hb); (try clear hb2); (try clear hk); (try clear hi)) | ((with_reducible refine gate_dst (N := 21) rfl ?_); refine Kd.R_lit (Kd.int .i64) _ 3 ?hg (N := 21) ?hd (xs := ([1, (-2), 5, 700, 1000000000, (-1000000000), t343] : List Int)) (inner := [.int .i64 1, .int .i64 (-2), .int .i64 5, .int .i64 700, .int .i64 1000000000, .int .i64 (-1000000000), .int .i64 t343]) (ok := fun _ => True) (okp := fun _ => True) ?hr ?hp (fun _ hk => hk) trivial (Below.refl _ _) (Nat.le_refl _) (by simp) ?_; (case hd => rfl); (case hg => rfl); (case hr => exact z148_); (case hp => exact (Reps.one (show Kd.M (Kd.int .i64) _ _ _ 1 [.int .i64 1] from rfl) (Reps.one (show Kd.M (Kd.int .i64) _ _ _ (-2) [.int .i64 (-2)] from rfl) (Reps.one (show Kd.M (Kd.int .i64) _ _ _ 5 [.int .i64 5] from rfl) (Reps.one (show Kd.M (Kd.int .i64) _ _ _ 700 [.int .i64 700] from rfl) (Reps.one (show Kd.M (Kd.int .i64) _ _ _ 1000000000 [.int .i64 1000000000] from rfl) (Reps.one (show Kd.M (Kd.int .i64) _ _ _ (-1000000000) [.int .i64 (-1000000000)] from rfl) (Reps.one (show Kd.M (Kd.int .i64) _ _ _ t343 [.int .i64 t343] from rfl) (Reps.none _ _))))))))); intro v347 w26 ho27 hb hg_ hnew_; clear hg_ hnew_; (first | rw [← Ny346.out] at ho27 | (simp only [Int.reduceToNat] at ho27; rw [← Ny346.out] at ho27)); have n0_ := q_ (Kd.R_lower ho27 (keep_size (w := w) (g := g) (row := none) z31_)); have n1_ := q_ (blk_below (g := gb332) (o := .cells #[.int .i64 0, .int .i64 0, .int .i64 0] 67 (0, 0)) z54_ hb); have n2_ := q_ (blk_below (g := gb342) (o := .cells #[.int .i64 t336, .int .i64 t339, .int .i64 0] 67 (0, 0)) z86_ hb); have n3_ := q_ (IsS189.below z35_ hb); have n4_ := q_ (KeepBut.trans z31_ (KeepBut.of_below hb g none) (.inl rfl)); have n5_ := q_ (below_step z52_ hb); clear BK332; clear BK342; clear HI0; clear HK; clear HB; have HO348 := n0_; have BK332 := n1_; have BK342 := n2_; have HI0 := n3_; have HK := n4_; have HB := n5_; clear n0_ n1_ n2_ n3_ n4_ n5_; clear hb ho27; obtain ⟨Ao28, co28, eo28⟩ := Kd.R_slice HO348.out; subst eo28) | ((with_reducible refine gate_callee (f := 167) rfl ?_); refine goesL_ (some 22) rfl rfl Try.func167 (by kernel_rfl) rfl #[.pointer (some ⟨g, 0, none⟩), .slice Ao28 y346.length co28] rfl z1_ ?_; (with_reducible refine (spec_l1PickInt.calls g s0_0 t344 t345 _ _ y346 t349 t350 t351 w0 _ ?side1 ?side2 ?side3 ?side4 ?side5 A24.out).mono ?_); (case side1 => exact z167_); (case side2 => exact z168_); (case side3 => repeat (first | exact (Kd.R_reads' HO348.out).2.2 | (with_reducible refine Kd.C_alloc ?_ _) | (with_reducible refine Kd.C_drewN ?_ _) | (with_reducible refine Kd.C_drew ?_))); (case side4 => exact (Kd.R_reads' HO348.out).2.1); (case side5 => exact far_slice (IsS189.own_ne HI0.out HO348.out (by decide))); rintro e w29 ⟨rfl, hi, hb, hk⟩; refine ⟨_, rfl, ?_⟩; have n0_ := q_ (KeepBut.blk hk (g' := gb332) (o := .cells #[.int .i64 0, .int .i64 0, .int .i64 0] 67 (0, 0)) z54_ NB332_0.out (by simp)); have n1_ := q_ (KeepBut.blk hk (g' := gb342) (o := .cells #[.int .i64 t336, .int .i64 t339, .int .i64 0] 67 (0, 0)) z86_ NB342_0.out (by simp)); have n2_ := q_ (Kd.R_mono (Kd.R_keep (IsS189.apart (show IsS189 w0 _ g s0_0 t344 t345 from z35_) (by (with_reducible repeat (first | apply Kd.R_alloc | apply Kd.R_drewN | apply Kd.R_drew)); exact HO348.out) (by decide)) hk (fun _ h => h.2)) (fun _ h => h.1)); have n3_ := q_ (KeepBut.trans z31_ hk (.inl rfl)); have n4_ := q_ (hb); have n5_ := q_ (hi); clear BK332; clear BK342; clear HO348; clear HK; clear HB; clear HI0; have BK332 := n0_; have BK342 := n1_; have HO348 := n2_; have HK := n3_; have HB := n4_; have HI0 := n5_; clear n0_ n1_ n2_ n3_ n4_ n5_; (try clear hb); (try clear hb2); (try clear hk); (try clear hi); have hnb30 := NB342_332.out; have hnc30 := NB332_342.out; have hnb31 := NB342_0.out; have hnc31 := NB0_342.out; obtain ⟨hcz32_0, hcz32_1, hcz32_2, hfz32_0, hfz32_1, hfz32_2⟩ := cs3_ BK342.out; have hnb33 := NB332_0.out; have hnc33 := NB0_332.out; obtain ⟨hcz34_0, hcz34_1, hcz34_2, hfz34_0, hfz34_1, hfz34_2⟩ := cs3_ BK332.out))
    refine bodyPost_ret (results_cell_row rfl _ _ gb332 67 #[.int .i64 t336, .int .i64 t339, .int .i64 t349] (0, 0) _ rfl (by (with_reducible repeat (first | refine blk_drewN ?_ _ | refine blk_drew ?_ | refine blk_alloc ?_ _)); refine blk_put (cs := #[.int .i64 t336, .int .i64 t339, .int .i64 0]) ?_ 2 _ rfl; (with_reducible repeat (first | refine blk_drewN ?_ _ | refine blk_drew ?_ | refine blk_alloc ?_ _)); refine blk_put (cs := #[.int .i64 t336, .int .i64 0, .int .i64 0]) ?_ 1 _ rfl; (with_reducible repeat (first | refine blk_drewN ?_ _ | refine blk_drew ?_ | refine blk_alloc ?_ _)); refine blk_put (cs := #[.int .i64 0, .int .i64 0, .int .i64 0]) ?_ 0 _ rfl; (with_reducible repeat (first | refine blk_drewN ?_ _ | refine blk_drew ?_ | refine blk_alloc ?_ _)); refine blk_far ?_ NB332_342.out _; (with_reducible repeat (first | refine blk_drewN ?_ _ | refine blk_drew ?_ | refine blk_alloc ?_ _)); exact BK332.out) Try.underlying67 rfl (by kernel_rfl)) rfl ?_
    exact ⟨z5_, z35_, z52_, z31_⟩
   ·replace c22 := Bool.eq_false_iff.mpr c22
    subst c22
    have H1 : (some (t336, t339, 0, t340, t341)) = some (r1, r2, r3, r4, r5) := by rw [if_neg (show ¬ (false = true) by decide)] at H; exact H
    clear H
    have H := H1
    clear H1
    simp only [Option.some.injEq, Prod.mk.injEq] at H
    obtain ⟨rfl, rfl, rfl, rfl, rfl⟩ := H
    have hnb35 := NB342_332.out
    have hnc35 := NB332_342.out
    have hnb36 := NB342_0.out
    have hnc36 := NB0_342.out
    obtain ⟨hcz37_0, hcz37_1, hcz37_2, hfz37_0, hfz37_1, hfz37_2⟩ := cs3_ BK342.out
    have hnb38 := NB332_0.out
    have hnc38 := NB0_332.out
    obtain ⟨hcz39_0, hcz39_1, hcz39_2, hfz39_0, hfz39_1, hfz39_2⟩ := cs3_ BK332.out
    go_wp2
    refine bodyPost_ret (results_cell_row rfl _ _ gb332 67 #[.int .i64 t336, .int .i64 t339, .int .i64 0] (0, 0) _ rfl (by (with_reducible repeat (first | refine blk_drewN ?_ _ | refine blk_drew ?_ | refine blk_alloc ?_ _)); refine blk_put (cs := #[.int .i64 t336, .int .i64 t339, .int .i64 0]) ?_ 2 _ rfl; (with_reducible repeat (first | refine blk_drewN ?_ _ | refine blk_drew ?_ | refine blk_alloc ?_ _)); refine blk_put (cs := #[.int .i64 t336, .int .i64 0, .int .i64 0]) ?_ 1 _ rfl; (with_reducible repeat (first | refine blk_drewN ?_ _ | refine blk_drew ?_ | refine blk_alloc ?_ _)); refine blk_put (cs := #[.int .i64 0, .int .i64 0, .int .i64 0]) ?_ 0 _ rfl; (with_reducible repeat (first | refine blk_drewN ?_ _ | refine blk_drew ?_ | refine blk_alloc ?_ _)); exact BK332.out) Try.underlying67 rfl (by kernel_rfl)) rfl ?_
    exact ⟨z5_, z35_, z52_, z31_⟩

/-! ### spec_l1DrawBad: function 134 -/
def spec_l1DrawBad.f (k : Nat) (s0_0 : List Int) (s0_1 : Int) (s0_2 : Int) : Option (Int × Int × Int × Int × Int) := (spec_l1DrawMsg.f k s0_0 s0_1 s0_2).bind fun bt353 => ((spec_l1Below.f s0_0 bt353.2.2.2.1 bt353.2.2.2.2 15).bind fun bt359 => (if bt359.1 = 0 then ((spec_l1Below.f s0_0 bt359.2.1 bt359.2.2 7).bind fun bt362 => (some (wrap64 (bt362.1 - 1), bt353.2.1, bt353.2.2.1, bt362.2.1, bt362.2.2))) else (if bt359.1 = 1 then ((spec_l1PickInt.f s0_0 bt359.2.1 bt359.2.2 (([(-1), 1000] : List Int))).bind fun bt368 => (some (bt353.1, bt368.1, bt353.2.2.1, bt368.2.1, bt368.2.2))) else (if bt359.1 = 2 then ((spec_l1PickInt.f s0_0 bt359.2.1 bt359.2.2 (([1000000001, 3] : List Int))).bind fun bt374 => (some (bt353.1, bt353.2.1, bt374.1, bt374.2.1, bt374.2.2))) else (some (bt353.1, bt353.2.1, bt353.2.2.1, bt359.2.1, bt359.2.2))))))
theorem spec_l1DrawBad.mono : ∀ a0 a1 a2 k, LeO (spec_l1DrawBad.f k a0 a1 a2) (spec_l1DrawBad.f (k + 1) a0 a1 a2) := by
 intro a0 a1 a2 k
 unfold spec_l1DrawBad.f
 repeat' first
   | (with_reducible exact spec_l1DrawMsg.mono _ _ _ _)
   | (with_reducible exact LeO.refl _)
   | (with_reducible exact LeO.none _)
   | (with_reducible refine LeO.ite ?_ ?_)
   | (with_reducible refine LeO.bind ?_ (fun _ => ?_))
   | exact spec_l1DrawMsg.mono _ _ _ _
   | exact LeO.none _
   | refine LeO.ite ?_ ?_
   | refine LeO.bind ?_ (fun _ => ?_)
set_option maxHeartbeats 8000000 in
set_option maxRecDepth 100000 in
theorem spec_l1DrawBad.calls (k : Nat) (g : Nat) (s0_0 : List Int) (s0_1 : Int) (s0_2 : Int) (r1 : Int) (r2 : Int) (r3 : Int) (r4 : Int) (r5 : Int) (w0 w : World) (hI : IsS189 w0 w g s0_0 s0_1 s0_2) (hB : Below w0.heap.size w0 w) (h : spec_l1DrawBad.f k s0_0 s0_1 s0_2 = some (r1, r2, r3, r4, r5)) :
  Calls Try.prog 134 #[.pointer (some ⟨g, 0, none⟩)] w fun e w' => e = .returned (.agg #[.int .i64 r1, .int .i64 r2, .int .i64 r3]) ∧ IsS189 w0 w' g s0_0 r4 r5 ∧ Below w0.heap.size w0 w' ∧ KeepBut w w' g none := by
 have hu67 := Try.underlying67
 have HI0 := q_ hI
 have HK := q_ (KeepBut.refl w g none)
 have HL := q_ hB.size
 clear hI
 have HW0 := q_ hB.size
 have HB := q_ hB
 clear hB
 have H : ((spec_l1DrawMsg.f k s0_0 s0_1 s0_2).bind fun bt353 => ((spec_l1Below.f s0_0 bt353.2.2.2.1 bt353.2.2.2.2 15).bind fun bt359 => (if bt359.1 = 0 then ((spec_l1Below.f s0_0 bt359.2.1 bt359.2.2 7).bind fun bt362 => (some (wrap64 (bt362.1 - 1), bt353.2.1, bt353.2.2.1, bt362.2.1, bt362.2.2))) else (if bt359.1 = 1 then ((spec_l1PickInt.f s0_0 bt359.2.1 bt359.2.2 (([(-1), 1000] : List Int))).bind fun bt368 => (some (bt353.1, bt368.1, bt353.2.2.1, bt368.2.1, bt368.2.2))) else (if bt359.1 = 2 then ((spec_l1PickInt.f s0_0 bt359.2.1 bt359.2.2 (([1000000001, 3] : List Int))).bind fun bt374 => (some (bt353.1, bt353.2.1, bt374.1, bt374.2.1, bt374.2.2))) else (some (bt353.1, bt353.2.1, bt353.2.2.1, bt359.2.1, bt359.2.2))))))) = some (r1, r2, r3, r4, r5) := h
 clear h
 replace H := Option.bind_eq_some_iff.mp H
 obtain ⟨⟨t353, t354, t355, t356, t357⟩, A20, H⟩ := H
 replace H : ((spec_l1Below.f s0_0 t356 t357 15).bind fun bt359 => (if bt359.1 = 0 then ((spec_l1Below.f s0_0 bt359.2.1 bt359.2.2 7).bind fun bt362 => (some (wrap64 (bt362.1 - 1), t354, t355, bt362.2.1, bt362.2.2))) else (if bt359.1 = 1 then ((spec_l1PickInt.f s0_0 bt359.2.1 bt359.2.2 (([(-1), 1000] : List Int))).bind fun bt368 => (some (t353, bt368.1, t355, bt368.2.1, bt368.2.2))) else (if bt359.1 = 2 then ((spec_l1PickInt.f s0_0 bt359.2.1 bt359.2.2 (([1000000001, 3] : List Int))).bind fun bt374 => (some (t353, t354, bt374.1, bt374.2.1, bt374.2.2))) else (some (t353, t354, t355, bt359.2.1, bt359.2.2)))))) = some (r1, r2, r3, r4, r5) := H
 have A2 := q_ A20
 clear A20
 replace H := Option.bind_eq_some_iff.mp H
 obtain ⟨⟨t359, t360, t361⟩, A30, H⟩ := H
 replace H : (if t359 = 0 then ((spec_l1Below.f s0_0 t360 t361 7).bind fun bt362 => (some (wrap64 (bt362.1 - 1), t354, t355, bt362.2.1, bt362.2.2))) else (if t359 = 1 then ((spec_l1PickInt.f s0_0 t360 t361 (([(-1), 1000] : List Int))).bind fun bt368 => (some (t353, bt368.1, t355, bt368.2.1, bt368.2.2))) else (if t359 = 2 then ((spec_l1PickInt.f s0_0 t360 t361 (([1000000001, 3] : List Int))).bind fun bt374 => (some (t353, t354, bt374.1, bt374.2.1, bt374.2.2))) else (some (t353, t354, t355, t360, t361))))) = some (r1, r2, r3, r4, r5) := H
 have A3 := q_ A30
 clear A30
 by_cases c4 : t359 = 0
 ·rw [if_pos c4] at H
  have c4b0 : (t359 == 0) = true := beq_iff_eq.mpr c4
  have c4b1 : (t359 != 0) = false := bne_eq_false_iff_eq.mpr c4
  clear c4
  replace H := Option.bind_eq_some_iff.mp H
  obtain ⟨⟨t362, t363, t364⟩, A50, H⟩ := H
  replace H : (some (wrap64 (t362 - 1), t354, t355, t363, t364)) = some (r1, r2, r3, r4, r5) := H
  have A5 := q_ A50
  clear A50
  simp only [Option.some.injEq, Prod.mk.injEq] at H
  obtain ⟨rfl, rfl, rfl, rfl, rfl⟩ := H
  go_enter Try.func134, Try.ntmps134
  go_wp2_with (first | ((with_reducible refine gate_dst (N := 2) rfl ?_); refine box_event ?hg (N := 2) ?hd (cs := #[.int .i64 0, .int .i64 0, .int .i64 0]) (t := 67) ?hr ?_; (case hd => rfl); (case hg => rfl); (case hr => exact z148_); intro gb352 hg w6 hbox hb; have n0_ := q_ (IsS189.below z4_ hb); have n1_ := q_ (KeepBut.trans z2_ (KeepBut.of_below hb g none) (.inl rfl)); have n2_ := q_ (below_step z6_ hb); have n3_ := q_ (hbox); have n4_ := q_ ((z120_ : w.heap.size ≤ gb352)); have n5_ := q_ ((Nat.le_trans HW0.out (z120_ : w.heap.size ≤ gb352) : w0.heap.size ≤ gb352)); have n6_ := q_ ((z126_ : g ≠ gb352)); have n7_ := q_ ((z127_ : gb352 ≠ g)); clear HI0; clear HK; clear HB; have HI0 := n0_; have HK := n1_; have HB := n2_; have BK352 := n3_; have GW352 := n4_; have GE352 := n5_; have NB0_352 := n6_; have NB352_0 := n7_; clear n0_ n1_ n2_ n3_ n4_ n5_ n6_ n7_; clear hb hbox hg) | ((with_reducible refine gate_callee (f := 175) rfl ?_); refine goesL_ (some 5) rfl rfl Try.func175 (by kernel_rfl) rfl #[.pointer (some ⟨g, 0, none⟩)] rfl z1_ ?_; (with_reducible refine (spec_l1DrawMsg.calls k g s0_0 s0_1 s0_2 t353 t354 t355 t356 t357 w0 _ ?side1 ?side2 A2.out).mono ?_); (case side1 => exact z157_); (case side2 => exact z158_); rintro e w7 ⟨rfl, hi, hb, hk⟩; refine ⟨_, rfl, ?_⟩; have n0_ := q_ (KeepBut.blk hk (g' := gb352) (o := .cells #[.int .i64 0, .int .i64 0, .int .i64 0] 67 (0, 0)) z20_ NB352_0.out (by simp)); have n1_ := q_ (KeepBut.trans z15_ hk (.inl rfl)); have n2_ := q_ (hb); have n3_ := q_ (hi); clear BK352; clear HK; clear HB; clear HI0; have BK352 := n0_; have HK := n1_; have HB := n2_; have HI0 := n3_; clear n0_ n1_ n2_ n3_; (try clear hb); (try clear hb2); (try clear hk); (try clear hi)) | ((with_reducible refine gate_dst (N := 3) rfl ?_); refine box_event ?hg (N := 3) ?hd (cs := #[.int .i64 0, .int .i64 0, .int .i64 0]) (t := 67) ?hr ?_; (case hd => rfl); (case hg => rfl); (case hr => exact z148_); intro gb358 hg w8 hbox hb; have n0_ := q_ (IsS189.below z19_ hb); have n1_ := q_ (blk_below (g := gb352) (o := .cells #[.int .i64 0, .int .i64 0, .int .i64 0] 67 (0, 0)) z20_ hb); have n2_ := q_ (KeepBut.trans z15_ (KeepBut.of_below hb g none) (.inl rfl)); have n3_ := q_ (below_step z65_ hb); have n4_ := q_ (hbox); have n5_ := q_ ((z123_ : w.heap.size ≤ gb358)); have n6_ := q_ ((Nat.le_trans HW0.out (z123_ : w.heap.size ≤ gb358) : w0.heap.size ≤ gb358)); have n7_ := q_ ((z124_ : gb352 ≠ gb358)); have n8_ := q_ ((z125_ : gb358 ≠ gb352)); have n9_ := q_ ((z130_ : g ≠ gb358)); have n10_ := q_ ((z131_ : gb358 ≠ g)); clear HI0; clear BK352; clear HK; clear HB; have HI0 := n0_; have BK352 := n1_; have HK := n2_; have HB := n3_; have BK358 := n4_; have GW358 := n5_; have GE358 := n6_; have NB352_358 := n7_; have NB358_352 := n8_; have NB0_358 := n9_; have NB358_0 := n10_; clear n0_ n1_ n2_ n3_ n4_ n5_ n6_ n7_ n8_ n9_ n10_; clear hb hbox hg; have hnb9 := NB358_352.out; have hnc9 := NB352_358.out; have hnb10 := NB358_0.out; have hnc10 := NB0_358.out; obtain ⟨hcz11_0, hcz11_1, hcz11_2, hfz11_0, hfz11_1, hfz11_2⟩ := cs3_ BK358.out) | ((with_reducible refine gate_callee (f := 126) rfl ?_); refine goesL_ (some 7) rfl rfl Try.func126 (by kernel_rfl) rfl #[.pointer (some ⟨g, 0, none⟩), .int .i64 15] rfl z1_ ?_; (with_reducible refine (spec_l1Below.calls g s0_0 t356 t357 15 t359 t360 t361 w0 _ ?side1 ?side2 A3.out).mono ?_); (case side1 => exact z149_); (case side2 => exact z150_); rintro e w12 ⟨rfl, hi, hb, hk⟩; refine ⟨_, rfl, ?_⟩; have n0_ := q_ (KeepBut.blk hk (g' := gb352) (o := .cells #[.int .i64 0, .int .i64 0, .int .i64 0] 67 (0, 0)) z26_ NB352_0.out (by simp)); have n1_ := q_ (KeepBut.blk hk (g' := gb358) (o := .cells #[.int .i64 t353, .int .i64 t354, .int .i64 t355] 67 (0, 0)) z18_ NB358_0.out (by simp)); have n2_ := q_ (KeepBut.trans z13_ hk (.inl rfl)); have n3_ := q_ (hb); have n4_ := q_ (hi); clear BK352; clear BK358; clear HK; clear HB; clear HI0; have BK352 := n0_; have BK358 := n1_; have HK := n2_; have HB := n3_; have HI0 := n4_; clear n0_ n1_ n2_ n3_ n4_; (try clear hb); (try clear hb2); (try clear hk); (try clear hi)) | ((with_reducible refine gate_callee (f := 126) rfl ?_); refine goesL_ (some 11) rfl rfl Try.func126 (by kernel_rfl) rfl #[.pointer (some ⟨g, 0, none⟩), .int .i64 7] rfl z1_ ?_; (with_reducible refine (spec_l1Below.calls g s0_0 t360 t361 7 t362 t363 t364 w0 _ ?side1 ?side2 A5.out).mono ?_); (case side1 => exact z149_); (case side2 => exact z150_); rintro e w13 ⟨rfl, hi, hb, hk⟩; refine ⟨_, rfl, ?_⟩; have n0_ := q_ (KeepBut.blk hk (g' := gb352) (o := .cells #[.int .i64 0, .int .i64 0, .int .i64 0] 67 (0, 0)) z20_ NB352_0.out (by simp)); have n1_ := q_ (KeepBut.blk hk (g' := gb358) (o := .cells #[.int .i64 t353, .int .i64 t354, .int .i64 t355] 67 (0, 0)) z76_ NB358_0.out (by simp)); have n2_ := q_ (KeepBut.trans z13_ hk (.inl rfl)); have n3_ := q_ (hb); have n4_ := q_ (hi); clear BK352; clear BK358; clear HK; clear HB; clear HI0; have BK352 := n0_; have BK358 := n1_; have HK := n2_; have HB := n3_; have HI0 := n4_; clear n0_ n1_ n2_ n3_ n4_; (try clear hb); (try clear hb2); (try clear hk); (try clear hi); obtain ⟨hcz14_0, hcz14_1, hcz14_2, hfz14_0, hfz14_1, hfz14_2⟩ := cs3_ BK358.out; have hnb15 := NB352_0.out; have hnc15 := NB0_352.out; obtain ⟨hcz16_0, hcz16_1, hcz16_2, hfz16_0, hfz16_1, hfz16_2⟩ := cs3_ BK352.out))
  refine bodyPost_ret (results_cell_row rfl _ _ gb352 67 #[.int .i64 (wrap64 (t362 - 1)), .int .i64 t354, .int .i64 t355] (0, 0) _ rfl (by (with_reducible repeat (first | refine blk_drewN ?_ _ | refine blk_drew ?_ | refine blk_alloc ?_ _)); refine blk_put (cs := #[.int .i64 (wrap64 (t362 - 1)), .int .i64 t354, .int .i64 0]) ?_ 2 _ rfl; (with_reducible repeat (first | refine blk_drewN ?_ _ | refine blk_drew ?_ | refine blk_alloc ?_ _)); refine blk_put (cs := #[.int .i64 (wrap64 (t362 - 1)), .int .i64 0, .int .i64 0]) ?_ 1 _ rfl; (with_reducible repeat (first | refine blk_drewN ?_ _ | refine blk_drew ?_ | refine blk_alloc ?_ _)); refine blk_put (cs := #[.int .i64 0, .int .i64 0, .int .i64 0]) ?_ 0 _ rfl; (with_reducible repeat (first | refine blk_drewN ?_ _ | refine blk_drew ?_ | refine blk_alloc ?_ _)); refine blk_far ?_ NB352_358.out _; (with_reducible repeat (first | refine blk_drewN ?_ _ | refine blk_drew ?_ | refine blk_alloc ?_ _)); exact BK352.out) Try.underlying67 rfl (by kernel_rfl)) rfl ?_
  exact ⟨z5_, z27_, z40_, z13_⟩
 ·rw [if_neg c4] at H
  have c4b0 : (t359 == 0) = false := beq_eq_false_iff_ne.mpr c4
  have c4b1 : (t359 != 0) = true := bne_iff_ne.mpr c4
  by_cases c17 : t359 = 1
  ·rw [if_pos c17] at H
   have c17b0 : (t359 == 1) = true := beq_iff_eq.mpr c17
   have c17b1 : (t359 != 1) = false := bne_eq_false_iff_eq.mpr c17
   clear c17
   obtain ⟨y365, hy365⟩ : ∃ y_ : List Int, y_ = (([(-1), 1000] : List Int)) := ⟨_, rfl⟩
   replace H : ((spec_l1PickInt.f s0_0 t360 t361 y365).bind fun bt368 => (some (t353, bt368.1, t355, bt368.2.1, bt368.2.2))) = some (r1, r2, r3, r4, r5) := by first | (rw [hy365]; with_reducible exact H) | (have H2_ := (Option.bind_some _ _).symm.trans H; rw [hy365]; with_reducible exact H2_) | (have H2_ := (Option.bind_some _ _).symm.trans H; with_reducible exact H2_) | with_reducible exact H | (rw [hy365]; exact H) | exact H
   have Ny365 := q_ hy365
   clear hy365
   replace H := Option.bind_eq_some_iff.mp H
   obtain ⟨⟨t368, t369, t370⟩, A180, H⟩ := H
   replace H : (some (t353, t368, t355, t369, t370)) = some (r1, r2, r3, r4, r5) := H
   have A18 := q_ A180
   clear A180
   simp only [Option.some.injEq, Prod.mk.injEq] at H
   obtain ⟨rfl, rfl, rfl, rfl, rfl⟩ := H
   go_enter Try.func134, Try.ntmps134
   go_wp2_with (first | ((with_reducible refine gate_dst (N := 2) rfl ?_); refine box_event ?hg (N := 2) ?hd (cs := #[.int .i64 0, .int .i64 0, .int .i64 0]) (t := 67) ?hr ?_; (case hd => rfl); (case hg => rfl); (case hr => exact z148_); intro gb352 hg w19 hbox hb; have n0_ := q_ (IsS189.below z4_ hb); have n1_ := q_ (KeepBut.trans z2_ (KeepBut.of_below hb g none) (.inl rfl)); have n2_ := q_ (below_step z6_ hb); have n3_ := q_ (hbox); have n4_ := q_ ((z120_ : w.heap.size ≤ gb352)); have n5_ := q_ ((Nat.le_trans HW0.out (z120_ : w.heap.size ≤ gb352) : w0.heap.size ≤ gb352)); have n6_ := q_ ((z126_ : g ≠ gb352)); have n7_ := q_ ((z127_ : gb352 ≠ g)); clear HI0; clear HK; clear HB; have HI0 := n0_; have HK := n1_; have HB := n2_; have BK352 := n3_; have GW352 := n4_; have GE352 := n5_; have NB0_352 := n6_; have NB352_0 := n7_; clear n0_ n1_ n2_ n3_ n4_ n5_ n6_ n7_; clear hb hbox hg) | ((with_reducible refine gate_callee (f := 175) rfl ?_); refine goesL_ (some 5) rfl rfl Try.func175 (by kernel_rfl) rfl #[.pointer (some ⟨g, 0, none⟩)] rfl z1_ ?_; (with_reducible refine (spec_l1DrawMsg.calls k g s0_0 s0_1 s0_2 t353 t354 t355 t356 t357 w0 _ ?side1 ?side2 A2.out).mono ?_); (case side1 => exact z157_); (case side2 => exact z158_); rintro e w20 ⟨rfl, hi, hb, hk⟩; refine ⟨_, rfl, ?_⟩; have n0_ := q_ (KeepBut.blk hk (g' := gb352) (o := .cells #[.int .i64 0, .int .i64 0, .int .i64 0] 67 (0, 0)) z20_ NB352_0.out (by simp)); have n1_ := q_ (KeepBut.trans z15_ hk (.inl rfl)); have n2_ := q_ (hb); have n3_ := q_ (hi); clear BK352; clear HK; clear HB; clear HI0; have BK352 := n0_; have HK := n1_; have HB := n2_; have HI0 := n3_; clear n0_ n1_ n2_ n3_; (try clear hb); (try clear hb2); (try clear hk); (try clear hi)) | ((with_reducible refine gate_dst (N := 3) rfl ?_); refine box_event ?hg (N := 3) ?hd (cs := #[.int .i64 0, .int .i64 0, .int .i64 0]) (t := 67) ?hr ?_; (case hd => rfl); (case hg => rfl); (case hr => exact z148_); intro gb358 hg w21 hbox hb; have n0_ := q_ (IsS189.below z19_ hb); have n1_ := q_ (blk_below (g := gb352) (o := .cells #[.int .i64 0, .int .i64 0, .int .i64 0] 67 (0, 0)) z20_ hb); have n2_ := q_ (KeepBut.trans z15_ (KeepBut.of_below hb g none) (.inl rfl)); have n3_ := q_ (below_step z65_ hb); have n4_ := q_ (hbox); have n5_ := q_ ((z123_ : w.heap.size ≤ gb358)); have n6_ := q_ ((Nat.le_trans HW0.out (z123_ : w.heap.size ≤ gb358) : w0.heap.size ≤ gb358)); have n7_ := q_ ((z124_ : gb352 ≠ gb358)); have n8_ := q_ ((z125_ : gb358 ≠ gb352)); have n9_ := q_ ((z130_ : g ≠ gb358)); have n10_ := q_ ((z131_ : gb358 ≠ g)); clear HI0; clear BK352; clear HK; clear HB; have HI0 := n0_; have BK352 := n1_; have HK := n2_; have HB := n3_; have BK358 := n4_; have GW358 := n5_; have GE358 := n6_; have NB352_358 := n7_; have NB358_352 := n8_; have NB0_358 := n9_; have NB358_0 := n10_; clear n0_ n1_ n2_ n3_ n4_ n5_ n6_ n7_ n8_ n9_ n10_; clear hb hbox hg; have hnb22 := NB358_352.out; have hnc22 := NB352_358.out; have hnb23 := NB358_0.out; have hnc23 := NB0_358.out; obtain ⟨hcz24_0, hcz24_1, hcz24_2, hfz24_0, hfz24_1, hfz24_2⟩ := cs3_ BK358.out) | ((with_reducible refine gate_callee (f := 126) rfl ?_); refine goesL_ (some 7) rfl rfl Try.func126 (by kernel_rfl) rfl #[.pointer (some ⟨g, 0, none⟩), .int .i64 15] rfl z1_ ?_; (with_reducible refine (spec_l1Below.calls g s0_0 t356 t357 15 t359 t360 t361 w0 _ ?side1 ?side2 A3.out).mono ?_); (case side1 => exact z149_); (case side2 => exact z150_); rintro e w25 ⟨rfl, hi, hb, hk⟩; refine ⟨_, rfl, ?_⟩; have n0_ := q_ (KeepBut.blk hk (g' := gb352) (o := .cells #[.int .i64 0, .int .i64 0, .int .i64 0] 67 (0, 0)) z26_ NB352_0.out (by simp)); have n1_ := q_ (KeepBut.blk hk (g' := gb358) (o := .cells #[.int .i64 t353, .int .i64 t354, .int .i64 t355] 67 (0, 0)) z18_ NB358_0.out (by simp)); have n2_ := q_ (KeepBut.trans z13_ hk (.inl rfl)); have n3_ := q_ (hb); have n4_ := q_ (hi); clear BK352; clear BK358; clear HK; clear HB; clear HI0; have BK352 := n0_; have BK358 := n1_; have HK := n2_; have HB := n3_; have HI0 := n4_; clear n0_ n1_ n2_ n3_ n4_; (try clear hb); (try clear hb2); (try clear hk); (try clear hi)) | ((with_reducible refine gate_dst (N := 17) rfl ?_); refine Kd.R_lit (Kd.int .i64) _ 3 ?hg (N := 17) ?hd (xs := ([(-1), 1000] : List Int)) (inner := [.int .i64 (-1), .int .i64 1000]) (ok := fun _ => True) (okp := fun _ => True) ?hr ?hp (fun _ hk => hk) trivial (Below.refl _ _) (Nat.le_refl _) (by simp) ?_; (case hd => rfl); (case hg => rfl); (case hr => exact z148_); (case hp => exact (Reps.one (show Kd.M (Kd.int .i64) _ _ _ (-1) [.int .i64 (-1)] from rfl) (Reps.one (show Kd.M (Kd.int .i64) _ _ _ 1000 [.int .i64 1000] from rfl) (Reps.none _ _)))); intro v366 w26 ho27 hb hg_ hnew_; clear hg_ hnew_; (first | rw [← Ny365.out] at ho27 | (simp only [Int.reduceToNat] at ho27; rw [← Ny365.out] at ho27)); have n0_ := q_ (Kd.R_lower ho27 (keep_size (w := w) (g := g) (row := none) z13_)); have n1_ := q_ (IsS189.below z27_ hb); have n2_ := q_ (blk_below (g := gb352) (o := .cells #[.int .i64 0, .int .i64 0, .int .i64 0] 67 (0, 0)) z20_ hb); have n3_ := q_ (blk_below (g := gb358) (o := .cells #[.int .i64 t353, .int .i64 t354, .int .i64 t355] 67 (0, 0)) z76_ hb); have n4_ := q_ (KeepBut.trans z13_ (KeepBut.of_below hb g none) (.inl rfl)); have n5_ := q_ (below_step z40_ hb); clear HI0; clear BK352; clear BK358; clear HK; clear HB; have HO367 := n0_; have HI0 := n1_; have BK352 := n2_; have BK358 := n3_; have HK := n4_; have HB := n5_; clear n0_ n1_ n2_ n3_ n4_ n5_; clear hb ho27; obtain ⟨Ao28, co28, eo28⟩ := Kd.R_slice HO367.out; subst eo28) | ((with_reducible refine gate_callee (f := 167) rfl ?_); refine goesL_ (some 18) rfl rfl Try.func167 (by kernel_rfl) rfl #[.pointer (some ⟨g, 0, none⟩), .slice Ao28 y365.length co28] rfl z1_ ?_; (with_reducible refine (spec_l1PickInt.calls g s0_0 t360 t361 _ _ y365 t368 t369 t370 w0 _ ?side1 ?side2 ?side3 ?side4 ?side5 A18.out).mono ?_); (case side1 => exact z149_); (case side2 => exact z150_); (case side3 => repeat (first | exact (Kd.R_reads' HO367.out).2.2 | (with_reducible refine Kd.C_alloc ?_ _) | (with_reducible refine Kd.C_drewN ?_ _) | (with_reducible refine Kd.C_drew ?_))); (case side4 => exact (Kd.R_reads' HO367.out).2.1); (case side5 => exact far_slice (IsS189.own_ne HI0.out HO367.out (by decide))); rintro e w29 ⟨rfl, hi, hb, hk⟩; refine ⟨_, rfl, ?_⟩; have n0_ := q_ (KeepBut.blk hk (g' := gb352) (o := .cells #[.int .i64 0, .int .i64 0, .int .i64 0] 67 (0, 0)) z20_ NB352_0.out (by simp)); have n1_ := q_ (KeepBut.blk hk (g' := gb358) (o := .cells #[.int .i64 t353, .int .i64 t354, .int .i64 t355] 67 (0, 0)) z76_ NB358_0.out (by simp)); have n2_ := q_ (Kd.R_mono (Kd.R_keep (IsS189.apart (show IsS189 w0 _ g s0_0 t360 t361 from z27_) (by (with_reducible repeat (first | apply Kd.R_alloc | apply Kd.R_drewN | apply Kd.R_drew)); exact HO367.out) (by decide)) hk (fun _ h => h.2)) (fun _ h => h.1)); have n3_ := q_ (KeepBut.trans z13_ hk (.inl rfl)); have n4_ := q_ (hb); have n5_ := q_ (hi); clear BK352; clear BK358; clear HO367; clear HK; clear HB; clear HI0; have BK352 := n0_; have BK358 := n1_; have HO367 := n2_; have HK := n3_; have HB := n4_; have HI0 := n5_; clear n0_ n1_ n2_ n3_ n4_ n5_; (try clear hb); (try clear hb2); (try clear hk); (try clear hi); obtain ⟨hcz30_0, hcz30_1, hcz30_2, hfz30_0, hfz30_1, hfz30_2⟩ := cs3_ BK358.out; have hnb31 := NB352_0.out; have hnc31 := NB0_352.out; obtain ⟨hcz32_0, hcz32_1, hcz32_2, hfz32_0, hfz32_1, hfz32_2⟩ := cs3_ BK352.out))
   refine bodyPost_ret (results_cell_row rfl _ _ gb352 67 #[.int .i64 t353, .int .i64 t368, .int .i64 t355] (0, 0) _ rfl (by (with_reducible repeat (first | refine blk_drewN ?_ _ | refine blk_drew ?_ | refine blk_alloc ?_ _)); refine blk_put (cs := #[.int .i64 t353, .int .i64 t368, .int .i64 0]) ?_ 2 _ rfl; (with_reducible repeat (first | refine blk_drewN ?_ _ | refine blk_drew ?_ | refine blk_alloc ?_ _)); refine blk_put (cs := #[.int .i64 t353, .int .i64 0, .int .i64 0]) ?_ 1 _ rfl; (with_reducible repeat (first | refine blk_drewN ?_ _ | refine blk_drew ?_ | refine blk_alloc ?_ _)); refine blk_put (cs := #[.int .i64 0, .int .i64 0, .int .i64 0]) ?_ 0 _ rfl; (with_reducible repeat (first | refine blk_drewN ?_ _ | refine blk_drew ?_ | refine blk_alloc ?_ _)); refine blk_far ?_ NB352_358.out _; (with_reducible repeat (first | refine blk_drewN ?_ _ | refine blk_drew ?_ | refine blk_alloc ?_ _)); exact BK352.out) Try.underlying67 rfl (by kernel_rfl)) rfl ?_
   exact ⟨z5_, z27_, z40_, z13_⟩
  ·rw [if_neg c17] at H
   have c17b0 : (t359 == 1) = false := beq_eq_false_iff_ne.mpr c17
   have c17b1 : (t359 != 1) = true := bne_iff_ne.mpr c17
   by_cases c33 : t359 = 2
   ·rw [if_pos c33] at H
    have c33b0 : (t359 == 2) = true := beq_iff_eq.mpr c33
    have c33b1 : (t359 != 2) = false := bne_eq_false_iff_eq.mpr c33
    clear c33
    obtain ⟨y371, hy371⟩ : ∃ y_ : List Int, y_ = (([1000000001, 3] : List Int)) := ⟨_, rfl⟩
    replace H : ((spec_l1PickInt.f s0_0 t360 t361 y371).bind fun bt374 => (some (t353, t354, bt374.1, bt374.2.1, bt374.2.2))) = some (r1, r2, r3, r4, r5) := by first | (rw [hy371]; with_reducible exact H) | (have H2_ := (Option.bind_some _ _).symm.trans H; rw [hy371]; with_reducible exact H2_) | (have H2_ := (Option.bind_some _ _).symm.trans H; with_reducible exact H2_) | with_reducible exact H | (rw [hy371]; exact H) | exact H
    have Ny371 := q_ hy371
    clear hy371
    replace H := Option.bind_eq_some_iff.mp H
    obtain ⟨⟨t374, t375, t376⟩, A340, H⟩ := H
    replace H : (some (t353, t354, t374, t375, t376)) = some (r1, r2, r3, r4, r5) := H
    have A34 := q_ A340
    clear A340
    simp only [Option.some.injEq, Prod.mk.injEq] at H
    obtain ⟨rfl, rfl, rfl, rfl, rfl⟩ := H
    go_enter Try.func134, Try.ntmps134
    go_wp2_with (first | ((with_reducible refine gate_dst (N := 2) rfl ?_); refine box_event ?hg (N := 2) ?hd (cs := #[.int .i64 0, .int .i64 0, .int .i64 0]) (t := 67) ?hr ?_; (case hd => rfl); (case hg => rfl); (case hr => exact z148_); intro gb352 hg w35 hbox hb; have n0_ := q_ (IsS189.below z4_ hb); have n1_ := q_ (KeepBut.trans z2_ (KeepBut.of_below hb g none) (.inl rfl)); have n2_ := q_ (below_step z6_ hb); have n3_ := q_ (hbox); have n4_ := q_ ((z120_ : w.heap.size ≤ gb352)); have n5_ := q_ ((Nat.le_trans HW0.out (z120_ : w.heap.size ≤ gb352) : w0.heap.size ≤ gb352)); have n6_ := q_ ((z126_ : g ≠ gb352)); have n7_ := q_ ((z127_ : gb352 ≠ g)); clear HI0; clear HK; clear HB; have HI0 := n0_; have HK := n1_; have HB := n2_; have BK352 := n3_; have GW352 := n4_; have GE352 := n5_; have NB0_352 := n6_; have NB352_0 := n7_; clear n0_ n1_ n2_ n3_ n4_ n5_ n6_ n7_; clear hb hbox hg) | ((with_reducible refine gate_callee (f := 175) rfl ?_); refine goesL_ (some 5) rfl rfl Try.func175 (by kernel_rfl) rfl #[.pointer (some ⟨g, 0, none⟩)] rfl z1_ ?_; (with_reducible refine (spec_l1DrawMsg.calls k g s0_0 s0_1 s0_2 t353 t354 t355 t356 t357 w0 _ ?side1 ?side2 A2.out).mono ?_); (case side1 => exact z157_); (case side2 => exact z158_); rintro e w36 ⟨rfl, hi, hb, hk⟩; refine ⟨_, rfl, ?_⟩; have n0_ := q_ (KeepBut.blk hk (g' := gb352) (o := .cells #[.int .i64 0, .int .i64 0, .int .i64 0] 67 (0, 0)) z20_ NB352_0.out (by simp)); have n1_ := q_ (KeepBut.trans z15_ hk (.inl rfl)); have n2_ := q_ (hb); have n3_ := q_ (hi); clear BK352; clear HK; clear HB; clear HI0; have BK352 := n0_; have HK := n1_; have HB := n2_; have HI0 := n3_; clear n0_ n1_ n2_ n3_; (try clear hb); (try clear hb2); (try clear hk); (try clear hi)) | ((with_reducible refine gate_dst (N := 3) rfl ?_); refine box_event ?hg (N := 3) ?hd (cs := #[.int .i64 0, .int .i64 0, .int .i64 0]) (t := 67) ?hr ?_; (case hd => rfl); (case hg => rfl); (case hr => exact z148_); intro gb358 hg w37 hbox hb; have n0_ := q_ (IsS189.below z19_ hb); have n1_ := q_ (blk_below (g := gb352) (o := .cells #[.int .i64 0, .int .i64 0, .int .i64 0] 67 (0, 0)) z20_ hb); have n2_ := q_ (KeepBut.trans z15_ (KeepBut.of_below hb g none) (.inl rfl)); have n3_ := q_ (below_step z65_ hb); have n4_ := q_ (hbox); have n5_ := q_ ((z123_ : w.heap.size ≤ gb358)); have n6_ := q_ ((Nat.le_trans HW0.out (z123_ : w.heap.size ≤ gb358) : w0.heap.size ≤ gb358)); have n7_ := q_ ((z124_ : gb352 ≠ gb358)); have n8_ := q_ ((z125_ : gb358 ≠ gb352)); have n9_ := q_ ((z130_ : g ≠ gb358)); have n10_ := q_ ((z131_ : gb358 ≠ g)); clear HI0; clear BK352; clear HK; clear HB; have HI0 := n0_; have BK352 := n1_; have HK := n2_; have HB := n3_; have BK358 := n4_; have GW358 := n5_; have GE358 := n6_; have NB352_358 := n7_; have NB358_352 := n8_; have NB0_358 := n9_; have NB358_0 := n10_; clear n0_ n1_ n2_ n3_ n4_ n5_ n6_ n7_ n8_ n9_ n10_; clear hb hbox hg; have hnb38 := NB358_352.out; have hnc38 := NB352_358.out; have hnb39 := NB358_0.out; have hnc39 := NB0_358.out; obtain ⟨hcz40_0, hcz40_1, hcz40_2, hfz40_0, hfz40_1, hfz40_2⟩ := cs3_ BK358.out) | ((with_reducible refine gate_callee (f := 126) rfl ?_); refine goesL_ (some 7) rfl rfl Try.func126 (by kernel_rfl) rfl #[.pointer (some ⟨g, 0, none⟩), .int .i64 15] rfl z1_ ?_; (with_reducible refine (spec_l1Below.calls g s0_0 t356 t357 15 t359 t360 t361 w0 _ ?side1 ?side2 A3.out).mono ?_); (case side1 => exact z149_); (case side2 => exact z150_); rintro e w41 ⟨rfl, hi, hb, hk⟩; refine ⟨_, rfl, ?_⟩; have n0_ := q_ (KeepBut.blk hk (g' := gb352) (o := .cells #[.int .i64 0, .int .i64 0, .int .i64 0] 67 (0, 0)) z26_ NB352_0.out (by simp)); have n1_ := q_ (KeepBut.blk hk (g' := gb358) (o := .cells #[.int .i64 t353, .int .i64 t354, .int .i64 t355] 67 (0, 0)) z18_ NB358_0.out (by simp)); have n2_ := q_ (KeepBut.trans z13_ hk (.inl rfl)); have n3_ := q_ (hb); have n4_ := q_ (hi); clear BK352; clear BK358; clear HK; clear HB; clear HI0; have BK352 := n0_; have BK358 := n1_; have HK := n2_; have HB := n3_; have HI0 := n4_; clear n0_ n1_ n2_ n3_ n4_; (try clear hb); (try clear hb2); (try clear hk); (try clear hi)) | ((with_reducible refine gate_dst (N := 23) rfl ?_); refine Kd.R_lit (Kd.int .i64) _ 3 ?hg (N := 23) ?hd (xs := ([1000000001, 3] : List Int)) (inner := [.int .i64 1000000001, .int .i64 3]) (ok := fun _ => True) (okp := fun _ => True) ?hr ?hp (fun _ hk => hk) trivial (Below.refl _ _) (Nat.le_refl _) (by simp) ?_; (case hd => rfl); (case hg => rfl); (case hr => exact z148_); (case hp => exact (Reps.one (show Kd.M (Kd.int .i64) _ _ _ 1000000001 [.int .i64 1000000001] from rfl) (Reps.one (show Kd.M (Kd.int .i64) _ _ _ 3 [.int .i64 3] from rfl) (Reps.none _ _)))); intro v372 w42 ho43 hb hg_ hnew_; clear hg_ hnew_; (first | rw [← Ny371.out] at ho43 | (simp only [Int.reduceToNat] at ho43; rw [← Ny371.out] at ho43)); have n0_ := q_ (Kd.R_lower ho43 (keep_size (w := w) (g := g) (row := none) z13_)); have n1_ := q_ (IsS189.below z27_ hb); have n2_ := q_ (blk_below (g := gb352) (o := .cells #[.int .i64 0, .int .i64 0, .int .i64 0] 67 (0, 0)) z20_ hb); have n3_ := q_ (blk_below (g := gb358) (o := .cells #[.int .i64 t353, .int .i64 t354, .int .i64 t355] 67 (0, 0)) z76_ hb); have n4_ := q_ (KeepBut.trans z13_ (KeepBut.of_below hb g none) (.inl rfl)); have n5_ := q_ (below_step z40_ hb); clear HI0; clear BK352; clear BK358; clear HK; clear HB; have HO373 := n0_; have HI0 := n1_; have BK352 := n2_; have BK358 := n3_; have HK := n4_; have HB := n5_; clear n0_ n1_ n2_ n3_ n4_ n5_; clear hb ho43; obtain ⟨Ao44, co44, eo44⟩ := Kd.R_slice HO373.out; subst eo44) | ((with_reducible refine gate_callee (f := 167) rfl ?_); refine goesL_ (some 24) rfl rfl Try.func167 (by kernel_rfl) rfl #[.pointer (some ⟨g, 0, none⟩), .slice Ao44 y371.length co44] rfl z1_ ?_; (with_reducible refine (spec_l1PickInt.calls g s0_0 t360 t361 _ _ y371 t374 t375 t376 w0 _ ?side1 ?side2 ?side3 ?side4 ?side5 A34.out).mono ?_); (case side1 => exact z149_); (case side2 => exact z150_); (case side3 => repeat (first | exact (Kd.R_reads' HO373.out).2.2 | (with_reducible refine Kd.C_alloc ?_ _) | (with_reducible refine Kd.C_drewN ?_ _) | (with_reducible refine Kd.C_drew ?_))); (case side4 => exact (Kd.R_reads' HO373.out).2.1); (case side5 => exact far_slice (IsS189.own_ne HI0.out HO373.out (by decide))); rintro e w45 ⟨rfl, hi, hb, hk⟩; refine ⟨_, rfl, ?_⟩; have n0_ := q_ (KeepBut.blk hk (g' := gb352) (o := .cells #[.int .i64 0, .int .i64 0, .int .i64 0] 67 (0, 0)) z20_ NB352_0.out (by simp)); have n1_ := q_ (KeepBut.blk hk (g' := gb358) (o := .cells #[.int .i64 t353, .int .i64 t354, .int .i64 t355] 67 (0, 0)) z76_ NB358_0.out (by simp)); have n2_ := q_ (Kd.R_mono (Kd.R_keep (IsS189.apart (show IsS189 w0 _ g s0_0 t360 t361 from z27_) (by (with_reducible repeat (first | apply Kd.R_alloc | apply Kd.R_drewN | apply Kd.R_drew)); exact HO373.out) (by decide)) hk (fun _ h => h.2)) (fun _ h => h.1)); have n3_ := q_ (KeepBut.trans z13_ hk (.inl rfl)); have n4_ := q_ (hb); have n5_ := q_ (hi); clear BK352; clear BK358; clear HO373; clear HK; clear HB; clear HI0; have BK352 := n0_; have BK358 := n1_; have HO373 := n2_; have HK := n3_; have HB := n4_; have HI0 := n5_; clear n0_ n1_ n2_ n3_ n4_ n5_; (try clear hb); (try clear hb2); (try clear hk); (try clear hi); obtain ⟨hcz46_0, hcz46_1, hcz46_2, hfz46_0, hfz46_1, hfz46_2⟩ := cs3_ BK358.out; have hnb47 := NB352_0.out; have hnc47 := NB0_352.out; obtain ⟨hcz48_0, hcz48_1, hcz48_2, hfz48_0, hfz48_1, hfz48_2⟩ := cs3_ BK352.out))
    refine bodyPost_ret (results_cell_row rfl _ _ gb352 67 #[.int .i64 t353, .int .i64 t354, .int .i64 t374] (0, 0) _ rfl (by (with_reducible repeat (first | refine blk_drewN ?_ _ | refine blk_drew ?_ | refine blk_alloc ?_ _)); refine blk_put (cs := #[.int .i64 t353, .int .i64 t354, .int .i64 0]) ?_ 2 _ rfl; (with_reducible repeat (first | refine blk_drewN ?_ _ | refine blk_drew ?_ | refine blk_alloc ?_ _)); refine blk_put (cs := #[.int .i64 t353, .int .i64 0, .int .i64 0]) ?_ 1 _ rfl; (with_reducible repeat (first | refine blk_drewN ?_ _ | refine blk_drew ?_ | refine blk_alloc ?_ _)); refine blk_put (cs := #[.int .i64 0, .int .i64 0, .int .i64 0]) ?_ 0 _ rfl; (with_reducible repeat (first | refine blk_drewN ?_ _ | refine blk_drew ?_ | refine blk_alloc ?_ _)); refine blk_far ?_ NB352_358.out _; (with_reducible repeat (first | refine blk_drewN ?_ _ | refine blk_drew ?_ | refine blk_alloc ?_ _)); exact BK352.out) Try.underlying67 rfl (by kernel_rfl)) rfl ?_
    exact ⟨z5_, z27_, z40_, z13_⟩
   ·rw [if_neg c33] at H
    have c33b0 : (t359 == 2) = false := beq_eq_false_iff_ne.mpr c33
    have c33b1 : (t359 != 2) = true := bne_iff_ne.mpr c33
    simp only [Option.some.injEq, Prod.mk.injEq] at H
    obtain ⟨rfl, rfl, rfl, rfl, rfl⟩ := H
    go_enter Try.func134, Try.ntmps134
    go_wp2_with (first | ((with_reducible refine gate_dst (N := 2) rfl ?_); refine box_event ?hg (N := 2) ?hd (cs := #[.int .i64 0, .int .i64 0, .int .i64 0]) (t := 67) ?hr ?_; (case hd => rfl); (case hg => rfl); (case hr => exact z148_); intro gb352 hg w49 hbox hb; have n0_ := q_ (IsS189.below z4_ hb); have n1_ := q_ (KeepBut.trans z2_ (KeepBut.of_below hb g none) (.inl rfl)); have n2_ := q_ (below_step z6_ hb); have n3_ := q_ (hbox); have n4_ := q_ ((z120_ : w.heap.size ≤ gb352)); have n5_ := q_ ((Nat.le_trans HW0.out (z120_ : w.heap.size ≤ gb352) : w0.heap.size ≤ gb352)); have n6_ := q_ ((z126_ : g ≠ gb352)); have n7_ := q_ ((z127_ : gb352 ≠ g)); clear HI0; clear HK; clear HB; have HI0 := n0_; have HK := n1_; have HB := n2_; have BK352 := n3_; have GW352 := n4_; have GE352 := n5_; have NB0_352 := n6_; have NB352_0 := n7_; clear n0_ n1_ n2_ n3_ n4_ n5_ n6_ n7_; clear hb hbox hg) | ((with_reducible refine gate_callee (f := 175) rfl ?_); refine goesL_ (some 5) rfl rfl Try.func175 (by kernel_rfl) rfl #[.pointer (some ⟨g, 0, none⟩)] rfl z1_ ?_; (with_reducible refine (spec_l1DrawMsg.calls k g s0_0 s0_1 s0_2 t353 t354 t355 t356 t357 w0 _ ?side1 ?side2 A2.out).mono ?_); (case side1 => exact z157_); (case side2 => exact z158_); rintro e w50 ⟨rfl, hi, hb, hk⟩; refine ⟨_, rfl, ?_⟩; have n0_ := q_ (KeepBut.blk hk (g' := gb352) (o := .cells #[.int .i64 0, .int .i64 0, .int .i64 0] 67 (0, 0)) z20_ NB352_0.out (by simp)); have n1_ := q_ (KeepBut.trans z15_ hk (.inl rfl)); have n2_ := q_ (hb); have n3_ := q_ (hi); clear BK352; clear HK; clear HB; clear HI0; have BK352 := n0_; have HK := n1_; have HB := n2_; have HI0 := n3_; clear n0_ n1_ n2_ n3_; (try clear hb); (try clear hb2); (try clear hk); (try clear hi)) | ((with_reducible refine gate_dst (N := 3) rfl ?_); refine box_event ?hg (N := 3) ?hd (cs := #[.int .i64 0, .int .i64 0, .int .i64 0]) (t := 67) ?hr ?_; (case hd => rfl); (case hg => rfl); (case hr => exact z148_); intro gb358 hg w51 hbox hb; have n0_ := q_ (IsS189.below z19_ hb); have n1_ := q_ (blk_below (g := gb352) (o := .cells #[.int .i64 0, .int .i64 0, .int .i64 0] 67 (0, 0)) z20_ hb); have n2_ := q_ (KeepBut.trans z15_ (KeepBut.of_below hb g none) (.inl rfl)); have n3_ := q_ (below_step z65_ hb); have n4_ := q_ (hbox); have n5_ := q_ ((z123_ : w.heap.size ≤ gb358)); have n6_ := q_ ((Nat.le_trans HW0.out (z123_ : w.heap.size ≤ gb358) : w0.heap.size ≤ gb358)); have n7_ := q_ ((z124_ : gb352 ≠ gb358)); have n8_ := q_ ((z125_ : gb358 ≠ gb352)); have n9_ := q_ ((z130_ : g ≠ gb358)); have n10_ := q_ ((z131_ : gb358 ≠ g)); clear HI0; clear BK352; clear HK; clear HB; have HI0 := n0_; have BK352 := n1_; have HK := n2_; have HB := n3_; have BK358 := n4_; have GW358 := n5_; have GE358 := n6_; have NB352_358 := n7_; have NB358_352 := n8_; have NB0_358 := n9_; have NB358_0 := n10_; clear n0_ n1_ n2_ n3_ n4_ n5_ n6_ n7_ n8_ n9_ n10_; clear hb hbox hg; have hnb52 := NB358_352.out; have hnc52 := NB352_358.out; have hnb53 := NB358_0.out; have hnc53 := NB0_358.out; obtain ⟨hcz54_0, hcz54_1, hcz54_2, hfz54_0, hfz54_1, hfz54_2⟩ := cs3_ BK358.out) | ((with_reducible refine gate_callee (f := 126) rfl ?_); refine goesL_ (some 7) rfl rfl Try.func126 (by kernel_rfl) rfl #[.pointer (some ⟨g, 0, none⟩), .int .i64 15] rfl z1_ ?_; (with_reducible refine (spec_l1Below.calls g s0_0 t356 t357 15 t359 t360 t361 w0 _ ?side1 ?side2 A3.out).mono ?_); (case side1 => exact z149_); (case side2 => exact z150_); rintro e w55 ⟨rfl, hi, hb, hk⟩; refine ⟨_, rfl, ?_⟩; have n0_ := q_ (KeepBut.blk hk (g' := gb352) (o := .cells #[.int .i64 0, .int .i64 0, .int .i64 0] 67 (0, 0)) z26_ NB352_0.out (by simp)); have n1_ := q_ (KeepBut.blk hk (g' := gb358) (o := .cells #[.int .i64 t353, .int .i64 t354, .int .i64 t355] 67 (0, 0)) z18_ NB358_0.out (by simp)); have n2_ := q_ (KeepBut.trans z13_ hk (.inl rfl)); have n3_ := q_ (hb); have n4_ := q_ (hi); clear BK352; clear BK358; clear HK; clear HB; clear HI0; have BK352 := n0_; have BK358 := n1_; have HK := n2_; have HB := n3_; have HI0 := n4_; clear n0_ n1_ n2_ n3_ n4_; (try clear hb); (try clear hb2); (try clear hk); (try clear hi); obtain ⟨hcz56_0, hcz56_1, hcz56_2, hfz56_0, hfz56_1, hfz56_2⟩ := cs3_ BK358.out; have hnb57 := NB352_0.out; have hnc57 := NB0_352.out; obtain ⟨hcz58_0, hcz58_1, hcz58_2, hfz58_0, hfz58_1, hfz58_2⟩ := cs3_ BK352.out))
    refine bodyPost_ret (results_cell_row rfl _ _ gb352 67 #[.int .i64 t353, .int .i64 t354, .int .i64 t355] (0, 0) _ rfl (by (with_reducible repeat (first | refine blk_drewN ?_ _ | refine blk_drew ?_ | refine blk_alloc ?_ _)); refine blk_put (cs := #[.int .i64 t353, .int .i64 t354, .int .i64 0]) ?_ 2 _ rfl; (with_reducible repeat (first | refine blk_drewN ?_ _ | refine blk_drew ?_ | refine blk_alloc ?_ _)); refine blk_put (cs := #[.int .i64 t353, .int .i64 0, .int .i64 0]) ?_ 1 _ rfl; (with_reducible repeat (first | refine blk_drewN ?_ _ | refine blk_drew ?_ | refine blk_alloc ?_ _)); refine blk_put (cs := #[.int .i64 0, .int .i64 0, .int .i64 0]) ?_ 0 _ rfl; (with_reducible repeat (first | refine blk_drewN ?_ _ | refine blk_drew ?_ | refine blk_alloc ?_ _)); exact BK352.out) Try.underlying67 rfl (by kernel_rfl)) rfl ?_
    exact ⟨z5_, z27_, z40_, z13_⟩

/-! ### spec_l1DrawMsgs: function 140 -/
def spec_l1DrawMsgs.l0 : Nat → List (S67) → Int → Int → List Int → Int → Int → Option ((List (S67)) × Int × Int)
 | 0, _, _, _, _, _, _ => none
 | k + 1, x5, x6, x7, x1000, x1001, x1002 => if x7 < x6 then ((spec_l1DrawBad.f k x1000 x1001 x1002).bind fun bt383 => ((spec_l1Once.f x1000 bt383.2.2.2.1 bt383.2.2.2.2 2).bind fun bt389 => (if bt389.1 = true then (if x5.length < 5864062014805 then (spec_l1DrawMsgs.l0 k (x5 ++ [(⟨bt383.1, Int.tmod bt383.2.1 5, bt383.2.2.1⟩ : S67)]) x6 (wrap64 (x7 + 1)) x1000 bt389.2.1 bt389.2.2) else (none)) else (if x5.length < 5864062014805 then (spec_l1DrawMsgs.l0 k (x5 ++ [(⟨bt383.1, bt383.2.1, bt383.2.2.1⟩ : S67)]) x6 (wrap64 (x7 + 1)) x1000 bt389.2.1 bt389.2.2) else (none))))) else (some (x5, x1001, x1002))
def spec_l1DrawMsgs.f (k : Nat) (s0_0 : List Int) (s0_1 : Int) (s0_2 : Int) (a1 : Int) : Option ((List (S67)) × Int × Int) := (spec_l1Below.f s0_0 s0_1 s0_2 (wrap64 (a1 + 1))).bind fun bt380 => (spec_l1DrawMsgs.l0 k (([] : List (S67))) bt380.1 0 s0_0 bt380.2.1 bt380.2.2)
theorem spec_l1DrawMsgs.mono_l : ∀ k, (∀ y0 y1 y2 y3 y4 y5, LeO (spec_l1DrawMsgs.l0 k y0 y1 y2 y3 y4 y5) (spec_l1DrawMsgs.l0 (k + 1) y0 y1 y2 y3 y4 y5))
 | 0 => fun _ _ _ _ _ _ r h => by simp [spec_l1DrawMsgs.l0] at h
 | k + 1 => by
  have ih0 := spec_l1DrawMsgs.mono_l k
  ·intro y0 y1 y2 y3 y4 y5
   unfold spec_l1DrawMsgs.l0
   repeat' first
   | (with_reducible exact ih0 _ _ _ _ _ _)
   | (with_reducible exact spec_l1DrawBad.mono _ _ _ _)
   | (with_reducible exact LeO.refl _)
   | (with_reducible exact LeO.none _)
   | (with_reducible refine LeO.ite ?_ ?_)
   | (with_reducible refine LeO.bind ?_ (fun _ => ?_))
   | exact ih0 _ _ _ _ _ _
   | exact spec_l1DrawBad.mono _ _ _ _
   | exact LeO.none _
   | refine LeO.ite ?_ ?_
   | refine LeO.bind ?_ (fun _ => ?_)
theorem spec_l1DrawMsgs.mono : ∀ a0 a1 a2 a3 k, LeO (spec_l1DrawMsgs.f k a0 a1 a2 a3) (spec_l1DrawMsgs.f (k + 1) a0 a1 a2 a3) := by
 intro a0 a1 a2 a3 k
 have ih0 := spec_l1DrawMsgs.mono_l k
 unfold spec_l1DrawMsgs.f
 repeat' first
   | (with_reducible exact ih0 _ _ _ _ _ _)
   | (with_reducible exact spec_l1DrawBad.mono _ _ _ _)
   | (with_reducible exact LeO.refl _)
   | (with_reducible exact LeO.none _)
   | (with_reducible refine LeO.ite ?_ ?_)
   | (with_reducible refine LeO.bind ?_ (fun _ => ?_))
   | exact ih0 _ _ _ _ _ _
   | exact spec_l1DrawBad.mono _ _ _ _
   | exact LeO.none _
   | refine LeO.ite ?_ ?_
   | refine LeO.bind ?_ (fun _ => ?_)
set_option maxHeartbeats 8000000 in
set_option maxRecDepth 100000 in
theorem spec_l1DrawMsgs.calls (k : Nat) (g : Nat) (s0_0 : List Int) (s0_1 : Int) (s0_2 : Int) (a1 : Int) (r1 : List (S67)) (r2 : Int) (r3 : Int) (w0 w : World) (hI : IsS189 w0 w g s0_0 s0_1 s0_2) (hB : Below w0.heap.size w0 w) (h : spec_l1DrawMsgs.f k s0_0 s0_1 s0_2 a1 = some (r1, r2, r3)) :
  Calls Try.prog 140 #[.pointer (some ⟨g, 0, none⟩), .int .i64 a1] w fun e w' => ∃ v0_ : Value, e = .returned (v0_) ∧ Kd.R k67 67 w' w.heap.size (fun _ => True) v0_ r1 ∧ IsS189 w0 w' g s0_0 r2 r3 ∧ Below w0.heap.size w0 w' ∧ KeepBut w w' g none := by
 have hu67 := Try.underlying67
 have HI0 := q_ hI
 have HK := q_ (KeepBut.refl w g none)
 have HL := q_ hB.size
 clear hI
 have HW0 := q_ hB.size
 have HB := q_ hB
 clear hB
 have H : ((spec_l1Below.f s0_0 s0_1 s0_2 (wrap64 (a1 + 1))).bind fun bt380 => (spec_l1DrawMsgs.l0 k (([] : List (S67))) bt380.1 0 s0_0 bt380.2.1 bt380.2.2)) = some (r1, r2, r3) := h
 clear h
 obtain ⟨y377, hy377⟩ : ∃ y_ : List (S67), y_ = (([] : List (S67))) := ⟨_, rfl⟩
 replace H : ((spec_l1Below.f s0_0 s0_1 s0_2 (wrap64 (a1 + 1))).bind fun bt380 => (spec_l1DrawMsgs.l0 k y377 bt380.1 0 s0_0 bt380.2.1 bt380.2.2)) = some (r1, r2, r3) := by first | (rw [hy377]; with_reducible exact H) | (have H2_ := (Option.bind_some _ _).symm.trans H; rw [hy377]; with_reducible exact H2_) | (have H2_ := (Option.bind_some _ _).symm.trans H; with_reducible exact H2_) | with_reducible exact H | (rw [hy377]; exact H) | exact H
 have Ny377 := q_ hy377
 clear hy377
 replace H := Option.bind_eq_some_iff.mp H
 obtain ⟨⟨t380, t381, t382⟩, A30, H⟩ := H
 replace H : (spec_l1DrawMsgs.l0 k y377 t380 0 s0_0 t381 t382) = some (r1, r2, r3) := H
 have A3 := q_ A30
 clear A30
 have H' := q_ H
 clear H
 go_enter Try.func140, Try.ntmps140
 go_wp2_with (first | ((with_reducible refine gate_dst (N := 9) rfl ?_); refine Kd.R_lit k67 _ 67 ?hg (N := 9) ?hd (xs := ([] : List (S67))) (inner := []) (ok := fun _ => True) (okp := fun _ => True) ?hr ?hp (fun _ hk => hk) trivial (Below.refl _ _) (Nat.le_refl _) (by simp) ?_; (case hd => rfl); (case hg => rfl); (case hr => exact z148_); (case hp => exact (Reps.none _ _)); intro v378 w4 ho5 hb hg_ hnew_; clear hg_ hnew_; (first | rw [← Ny377.out] at ho5 | (simp only [Int.reduceToNat] at ho5; rw [← Ny377.out] at ho5)); have n0_ := q_ (Kd.R_lower ho5 (keep_size (w := w) (g := g) (row := none) z2_)); have n1_ := q_ (IsS189.below z4_ hb); have n2_ := q_ (KeepBut.trans z2_ (KeepBut.of_below hb g none) (.inl rfl)); have n3_ := q_ (below_step z6_ hb); clear HI0; clear HK; clear HB; have HO379 := n0_; have HI0 := n1_; have HK := n2_; have HB := n3_; clear n0_ n1_ n2_ n3_; clear hb ho5) | ((with_reducible refine gate_callee (f := 126) rfl ?_); refine goesL_ (some 13) rfl rfl Try.func126 (by kernel_rfl) rfl #[.pointer (some ⟨g, 0, none⟩), .int .i64 (wrap64 (a1 + 1))] rfl z1_ ?_; (with_reducible refine (spec_l1Below.calls g s0_0 s0_1 s0_2 (wrap64 (a1 + 1)) t380 t381 t382 w0 _ ?side1 ?side2 A3.out).mono ?_); (case side1 => exact z146_); (case side2 => exact z147_); rintro e w6 ⟨rfl, hi, hb, hk⟩; refine ⟨_, rfl, ?_⟩; have n0_ := q_ (Kd.R_mono (Kd.R_keep (IsS189.apart (show IsS189 w0 _ g s0_0 s0_1 s0_2 from z4_) z105_ (by decide)) hk (fun _ h => h.2)) (fun _ h => h.1)); have n1_ := q_ (KeepBut.trans z2_ hk (.inl rfl)); have n2_ := q_ (hb); have n3_ := q_ (hi); clear HO379; clear HK; clear HB; clear HI0; have HO379 := n0_; have HK := n1_; have HB := n2_; have HI0 := n3_; clear n0_ n1_ n2_ n3_; (try clear hb); (try clear hb2); (try clear hk); (try clear hi)))
 go_loopg [5, 7] k (fun kq v5 v7 w' => ∃ (x5_1 : List (S67)) (x7_1 : Int) (x1001_1 : Int) (x1002_1 : Int), v7 = .int .i64 x7_1 ∧ Aside0 (spec_l1DrawMsgs.l0 kq x5_1 t380 x7_1 s0_0 x1001_1 x1002_1 = some (r1, r2, r3)) ∧ Aside0 (kq ≤ k) ∧ Aside0 (Kd.R k67 67 w' w.heap.size (fun _ => True) v5 x5_1) ∧ Aside0 (IsS189 w0 w' g s0_0 x1001_1 x1002_1) ∧ Aside0 (KeepBut w w' g none) ∧ Aside0 (Below w0.heap.size w0 w'))
 case atStart => exact ⟨(y377), (0), (t381), (t382), z7_, H', ⟨Nat.le_refl _⟩, ⟨z105_⟩, ⟨z4_⟩, ⟨z2_⟩, ⟨z6_⟩⟩
 case round =>
  clear H'
  try clear c1
  try clear p2
  try clear p6
  obtain ⟨x5_1, x7_1, x1001_1, x1002_1, rfl, HA, HK1, HO_5, HI0, HK, HB⟩ := hrel
  cases gk with
  | zero => exact absurd HA.out (by simp [spec_l1DrawMsgs.l0])
  | succ k1 =>
   have H := HA.out
   clear HA
   simp only [spec_l1DrawMsgs.l0] at H
   by_cases c7 : x7_1 < t380
   ·rw [if_pos c7] at H
    have c7b0 : decide (x7_1 < t380) = true := decide_eq_true c7
    clear c7
    replace H := Option.bind_eq_some_iff.mp H
    obtain ⟨⟨t383, t384, t385, t386, t387⟩, A80, H⟩ := H
    replace H : ((spec_l1Once.f s0_0 t386 t387 2).bind fun bt389 => (if bt389.1 = true then (if x5_1.length < 5864062014805 then (spec_l1DrawMsgs.l0 k1 (x5_1 ++ [(⟨t383, Int.tmod t384 5, t385⟩ : S67)]) t380 (wrap64 (x7_1 + 1)) s0_0 bt389.2.1 bt389.2.2) else (none)) else (if x5_1.length < 5864062014805 then (spec_l1DrawMsgs.l0 k1 (x5_1 ++ [(⟨t383, t384, t385⟩ : S67)]) t380 (wrap64 (x7_1 + 1)) s0_0 bt389.2.1 bt389.2.2) else (none)))) = some (r1, r2, r3) := H
    have A8 := q_ A80
    clear A80
    replace H := Option.bind_eq_some_iff.mp H
    obtain ⟨⟨t389, t390, t391⟩, A90, H⟩ := H
    replace H : (if t389 = true then (if x5_1.length < 5864062014805 then (spec_l1DrawMsgs.l0 k1 (x5_1 ++ [(⟨t383, Int.tmod t384 5, t385⟩ : S67)]) t380 (wrap64 (x7_1 + 1)) s0_0 t390 t391) else (none)) else (if x5_1.length < 5864062014805 then (spec_l1DrawMsgs.l0 k1 (x5_1 ++ [(⟨t383, t384, t385⟩ : S67)]) t380 (wrap64 (x7_1 + 1)) s0_0 t390 t391) else (none))) = some (r1, r2, r3) := H
    have A9 := q_ A90
    clear A90
    by_cases c10 : t389 = true
    ·subst c10
     have H1 : (if x5_1.length < 5864062014805 then (spec_l1DrawMsgs.l0 k1 (x5_1 ++ [(⟨t383, Int.tmod t384 5, t385⟩ : S67)]) t380 (wrap64 (x7_1 + 1)) s0_0 t390 t391) else (none)) = some (r1, r2, r3) := z58_
     clear H
     have H := H1
     clear H1
     by_cases c11 : x5_1.length < 5864062014805
     ·rw [if_pos c11] at H
      have LMc11 := q_ c11
      clear c11
      obtain ⟨y392, hy392⟩ : ∃ y_ : List (S67), y_ = (x5_1 ++ [(⟨t383, Int.tmod t384 5, t385⟩ : S67)]) := ⟨_, rfl⟩
      replace H : (spec_l1DrawMsgs.l0 k1 y392 t380 (wrap64 (x7_1 + 1)) s0_0 t390 t391) = some (r1, r2, r3) := by first | (rw [hy392]; with_reducible exact H) | (have H2_ := (Option.bind_some _ _).symm.trans H; rw [hy392]; with_reducible exact H2_) | (have H2_ := (Option.bind_some _ _).symm.trans H; with_reducible exact H2_) | with_reducible exact H | (rw [hy392]; exact H) | exact H
      have Ny392 := q_ hy392
      clear hy392
      have H' := q_ H
      clear H
      go_wp2_with (first | ((with_reducible refine gate_callee (f := 134) rfl ?_); refine goesL_ (some 20) rfl rfl Try.func134 (by kernel_rfl) rfl #[.pointer (some ⟨g, 0, none⟩)] rfl z1_ ?_; (with_reducible refine (spec_l1DrawBad.calls k1 g s0_0 x1001_1 x1002_1 t383 t384 t385 t386 t387 w0 _ ?side1 ?side2 A8.out).mono ?_); (case side1 => exact z146_); (case side2 => exact z147_); rintro e w12 ⟨rfl, hi, hb, hk⟩; refine ⟨_, rfl, ?_⟩; have n0_ := q_ (Kd.R_mono (Kd.R_keep (IsS189.apart (show IsS189 w0 _ g s0_0 x1001_1 x1002_1 from z4_) z36_ (by decide)) hk (fun _ h => h.2)) (fun _ h => h.1)); have n1_ := q_ (KeepBut.trans z2_ hk (.inl rfl)); have n2_ := q_ (hb); have n3_ := q_ (hi); clear HO_5; clear HK; clear HB; clear HI0; have HO_5 := n0_; have HK := n1_; have HB := n2_; have HI0 := n3_; clear n0_ n1_ n2_ n3_; (try clear hb); (try clear hb2); (try clear hk); (try clear hi)) | ((with_reducible refine gate_dst (N := 8) rfl ?_); refine box_event ?hg (N := 8) ?hd (cs := #[.int .i64 0, .int .i64 0, .int .i64 0]) (t := 67) ?hr ?_; (case hd => rfl); (case hg => rfl); (case hr => exact z148_); intro gb388 hg w13 hbox hb; have n0_ := q_ (Kd.R_below (Kd.R_elderB z36_ gb388 (Nat.le_of_eq hg.symm)) hb); have n1_ := q_ (IsS189.below z4_ hb); have n2_ := q_ (KeepBut.trans z2_ (KeepBut.of_below hb g none) (.inl rfl)); have n3_ := q_ (below_step z6_ hb); have n4_ := q_ (hbox); have n5_ := q_ ((z120_ : w.heap.size ≤ gb388)); have n6_ := q_ ((Nat.le_trans HW0.out (z120_ : w.heap.size ≤ gb388) : w0.heap.size ≤ gb388)); have n7_ := q_ ((z136_ : g ≠ gb388)); have n8_ := q_ ((z137_ : gb388 ≠ g)); clear HO_5; clear HI0; clear HK; clear HB; have HO_5 := n0_; have HI0 := n1_; have HK := n2_; have HB := n3_; have BK388 := n4_; have GW388 := n5_; have GE388 := n6_; have NB0_388 := n7_; have NB388_0 := n8_; clear n0_ n1_ n2_ n3_ n4_ n5_ n6_ n7_ n8_; clear hb hbox hg; have hnb14 := NB388_0.out; have hnc14 := NB0_388.out; obtain ⟨hcz15_0, hcz15_1, hcz15_2, hfz15_0, hfz15_1, hfz15_2⟩ := cs3_ BK388.out) | ((with_reducible refine gate_callee (f := 135) rfl ?_); refine goesL_ (some 22) rfl rfl Try.func135 (by kernel_rfl) rfl #[.pointer (some ⟨g, 0, none⟩), .int .i64 2] rfl z1_ ?_; (with_reducible refine (spec_l1Once.calls g s0_0 t386 t387 2 true t390 t391 w0 _ ?side1 ?side2 A9.out).mono ?_); (case side1 => exact z170_); (case side2 => exact z172_); rintro e w16 ⟨rfl, hi, hb, hk⟩; refine ⟨_, rfl, ?_⟩; have n0_ := q_ (Kd.R_mono (Kd.R_keep (IsS189.apart (show IsS189 w0 _ g s0_0 t386 t387 from z48_) z70_ (by decide)) hk (fun _ h => h.2)) (fun _ h => h.1)); have n1_ := q_ (KeepBut.blk hk (g' := gb388) (o := .cells #[.int .i64 t383, .int .i64 t384, .int .i64 t385] 67 (0, 0)) z45_ NB388_0.out (by simp)); have n2_ := q_ (KeepBut.trans z39_ hk (.inl rfl)); have n3_ := q_ (hb); have n4_ := q_ (hi); clear HO_5; clear BK388; clear HK; clear HB; clear HI0; have HO_5 := n0_; have BK388 := n1_; have HK := n2_; have HB := n3_; have HI0 := n4_; clear n0_ n1_ n2_ n3_ n4_; (try clear hb); (try clear hb2); (try clear hk); (try clear hi); obtain ⟨hcz17_0, hcz17_1, hcz17_2, hfz17_0, hfz17_1, hfz17_2⟩ := cs3_ BK388.out) | ((with_reducible refine gate_builtin (b := .append) (xs := #[.tmp 27, .tmp 29]) rfl ?_); at_builtin; refine Kd.R_append k67 w.heap.size rfl (.tmp 27) (.tmp 29) 24 67 (.agg #[(.int .i64 0), (.int .i64 0), (.int .i64 0)]) 24 rfl Try.underlying24 info67 rfl (by decide) (by omega) u5 x5_1 (⟨t383, Int.tmod t384 5, t385⟩ : S67) [.int .i64 t383, .int .i64 (Int.tmod t384 5), .int .i64 t385] (fun k_ => k_ ≠ gb388) (fun _ => False) rfl (by first | (go_simp; done) | (go_simp; rfl)) ?aP (fun _ hk => hk.elim) ?aF ?aO (Below.refl _ _) ?aS ?aL ?_; (case aP => exact k67_mkM _ _ _ (⟨t383, Int.tmod t384 5, t385⟩ : S67)); (case aF => exact (fun k_ hk => Kd.freshB (g := gb388) (o := .cells #[.int .i64 t383, .int .i64 (Int.tmod t384 5), .int .i64 t385] 67 (0, 0)) z75_ k_ hk)); (case aO => exact (by (with_reducible repeat (first | apply Kd.R_alloc | apply Kd.R_drewN | apply Kd.R_drew)); exact Kd.R_mono (Kd.R_far (p := ⟨gb388, 1, none⟩) (Kd.R_mono HO_5.out (fun k_ hk => (⟨hk, hk.2⟩ : _ ∧ k_ ≠ gb388))) (fun _ hk => hk.2) (.int .i64 (Int.tmod t384 5))) (fun _ hk => hk.1.2))); (case aS => exact (keep_size (w := w) (g := g) (row := none) z39_)); (case aL => have := LMc11.out; omega); intro v393 w18 ho hb hg hat; rw [← Ny392.out] at ho; have n0_ := q_ (IsS189.grown (show IsS189 w0 _ g s0_0 t390 t391 from z48_) hg (IsS189.own_ne HI0.out HO_5.out (by decide))); have n1_ := q_ (blk_grown (g := gb388) (o := .cells #[.int .i64 t383, .int .i64 (Int.tmod t384 5), .int .i64 t385] 67 (0, 0)) z75_ hg (Kd.R_away HO_5.out (fun _ hk => hk.2))); have n2_ := q_ (below_weaken z66_ HL.out hb); have n3_ := q_ (KeepBut.trans z39_ (KeepBut.of_grown hg g) (Kd.R_base2 HO_5.out)); have n4_ := q_ (ho); clear HI0; clear BK388; clear HB; clear HK; clear HO_5; have HI0 := n0_; have BK388 := n1_; have HB := n2_; have HK := n3_; have HO394 := n4_; clear n0_ n1_ n2_ n3_ n4_; clear ho hb hg hat))
      go_roundg k1
      case measure => have := HK1.out; omega
      case rel => exact ⟨(y392), (wrap64 (x7_1 + 1)), (t390), (t391), z7_, H', ⟨z74_⟩, ⟨by (with_reducible repeat (first | apply Kd.R_alloc | apply Kd.R_drewN | apply Kd.R_drew)); exact Kd.R_mono HO394.out (fun _ hk => trivial)⟩, ⟨z48_⟩, ⟨z39_⟩, ⟨z66_⟩⟩
     ·rw [if_neg c11] at H
      exact absurd H (by simp)
    ·replace c10 := Bool.eq_false_iff.mpr c10
     subst c10
     have H1 : (if x5_1.length < 5864062014805 then (spec_l1DrawMsgs.l0 k1 (x5_1 ++ [(⟨t383, t384, t385⟩ : S67)]) t380 (wrap64 (x7_1 + 1)) s0_0 t390 t391) else (none)) = some (r1, r2, r3) := by rw [if_neg (show ¬ (false = true) by decide)] at H; exact H
     clear H
     have H := H1
     clear H1
     by_cases c19 : x5_1.length < 5864062014805
     ·rw [if_pos c19] at H
      have LMc19 := q_ c19
      clear c19
      obtain ⟨y395, hy395⟩ : ∃ y_ : List (S67), y_ = (x5_1 ++ [(⟨t383, t384, t385⟩ : S67)]) := ⟨_, rfl⟩
      replace H : (spec_l1DrawMsgs.l0 k1 y395 t380 (wrap64 (x7_1 + 1)) s0_0 t390 t391) = some (r1, r2, r3) := by first | (rw [hy395]; with_reducible exact H) | (have H2_ := (Option.bind_some _ _).symm.trans H; rw [hy395]; with_reducible exact H2_) | (have H2_ := (Option.bind_some _ _).symm.trans H; with_reducible exact H2_) | with_reducible exact H | (rw [hy395]; exact H) | exact H
      have Ny395 := q_ hy395
      clear hy395
      have H' := q_ H
      clear H
      go_wp2_with (first | ((with_reducible refine gate_callee (f := 134) rfl ?_); refine goesL_ (some 20) rfl rfl Try.func134 (by kernel_rfl) rfl #[.pointer (some ⟨g, 0, none⟩)] rfl z1_ ?_; (with_reducible refine (spec_l1DrawBad.calls k1 g s0_0 x1001_1 x1002_1 t383 t384 t385 t386 t387 w0 _ ?side1 ?side2 A8.out).mono ?_); (case side1 => exact z146_); (case side2 => exact z147_); rintro e w20 ⟨rfl, hi, hb, hk⟩; refine ⟨_, rfl, ?_⟩; have n0_ := q_ (Kd.R_mono (Kd.R_keep (IsS189.apart (show IsS189 w0 _ g s0_0 x1001_1 x1002_1 from z4_) z36_ (by decide)) hk (fun _ h => h.2)) (fun _ h => h.1)); have n1_ := q_ (KeepBut.trans z2_ hk (.inl rfl)); have n2_ := q_ (hb); have n3_ := q_ (hi); clear HO_5; clear HK; clear HB; clear HI0; have HO_5 := n0_; have HK := n1_; have HB := n2_; have HI0 := n3_; clear n0_ n1_ n2_ n3_; (try clear hb); (try clear hb2); (try clear hk); (try clear hi)) | ((with_reducible refine gate_dst (N := 8) rfl ?_); refine box_event ?hg (N := 8) ?hd (cs := #[.int .i64 0, .int .i64 0, .int .i64 0]) (t := 67) ?hr ?_; (case hd => rfl); (case hg => rfl); (case hr => exact z148_); intro gb388 hg w21 hbox hb; have n0_ := q_ (Kd.R_below (Kd.R_elderB z36_ gb388 (Nat.le_of_eq hg.symm)) hb); have n1_ := q_ (IsS189.below z4_ hb); have n2_ := q_ (KeepBut.trans z2_ (KeepBut.of_below hb g none) (.inl rfl)); have n3_ := q_ (below_step z6_ hb); have n4_ := q_ (hbox); have n5_ := q_ ((z120_ : w.heap.size ≤ gb388)); have n6_ := q_ ((Nat.le_trans HW0.out (z120_ : w.heap.size ≤ gb388) : w0.heap.size ≤ gb388)); have n7_ := q_ ((z136_ : g ≠ gb388)); have n8_ := q_ ((z137_ : gb388 ≠ g)); clear HO_5; clear HI0; clear HK; clear HB; have HO_5 := n0_; have HI0 := n1_; have HK := n2_; have HB := n3_; have BK388 := n4_; have GW388 := n5_; have GE388 := n6_; have NB0_388 := n7_; have NB388_0 := n8_; clear n0_ n1_ n2_ n3_ n4_ n5_ n6_ n7_ n8_; clear hb hbox hg; have hnb22 := NB388_0.out; have hnc22 := NB0_388.out; obtain ⟨hcz23_0, hcz23_1, hcz23_2, hfz23_0, hfz23_1, hfz23_2⟩ := cs3_ BK388.out) | ((with_reducible refine gate_callee (f := 135) rfl ?_); refine goesL_ (some 22) rfl rfl Try.func135 (by kernel_rfl) rfl #[.pointer (some ⟨g, 0, none⟩), .int .i64 2] rfl z1_ ?_; (with_reducible refine (spec_l1Once.calls g s0_0 t386 t387 2 false t390 t391 w0 _ ?side1 ?side2 A9.out).mono ?_); (case side1 => exact z170_); (case side2 => exact z172_); rintro e w24 ⟨rfl, hi, hb, hk⟩; refine ⟨_, rfl, ?_⟩; have n0_ := q_ (Kd.R_mono (Kd.R_keep (IsS189.apart (show IsS189 w0 _ g s0_0 t386 t387 from z48_) z70_ (by decide)) hk (fun _ h => h.2)) (fun _ h => h.1)); have n1_ := q_ (KeepBut.blk hk (g' := gb388) (o := .cells #[.int .i64 t383, .int .i64 t384, .int .i64 t385] 67 (0, 0)) z45_ NB388_0.out (by simp)); have n2_ := q_ (KeepBut.trans z39_ hk (.inl rfl)); have n3_ := q_ (hb); have n4_ := q_ (hi); clear HO_5; clear BK388; clear HK; clear HB; clear HI0; have HO_5 := n0_; have BK388 := n1_; have HK := n2_; have HB := n3_; have HI0 := n4_; clear n0_ n1_ n2_ n3_ n4_; (try clear hb); (try clear hb2); (try clear hk); (try clear hi); obtain ⟨hcz25_0, hcz25_1, hcz25_2, hfz25_0, hfz25_1, hfz25_2⟩ := cs3_ BK388.out) | ((with_reducible refine gate_builtin (b := .append) (xs := #[.tmp 27, .tmp 29]) rfl ?_); at_builtin; refine Kd.R_append k67 w.heap.size rfl (.tmp 27) (.tmp 29) 24 67 (.agg #[(.int .i64 0), (.int .i64 0), (.int .i64 0)]) 24 rfl Try.underlying24 info67 rfl (by decide) (by omega) u5 x5_1 (⟨t383, t384, t385⟩ : S67) [.int .i64 t383, .int .i64 t384, .int .i64 t385] (fun k_ => k_ ≠ gb388) (fun _ => False) rfl rfl ?aP (fun _ hk => hk.elim) ?aF ?aO (Below.refl _ _) ?aS ?aL ?_; (case aP => exact k67_mkM _ _ _ (⟨t383, t384, t385⟩ : S67)); (case aF => exact (fun k_ hk => Kd.freshB (g := gb388) (o := .cells #[.int .i64 t383, .int .i64 t384, .int .i64 t385] 67 (0, 0)) z98_ k_ hk)); (case aO => exact (by (with_reducible repeat (first | apply Kd.R_alloc | apply Kd.R_drewN | apply Kd.R_drew)); exact Kd.R_mono HO_5.out (fun _ hk => hk.2))); (case aS => exact (keep_size (w := w) (g := g) (row := none) z39_)); (case aL => have := LMc19.out; omega); intro v396 w26 ho hb hg hat; rw [← Ny395.out] at ho; have n0_ := q_ (IsS189.grown (show IsS189 w0 _ g s0_0 t390 t391 from z48_) hg (IsS189.own_ne HI0.out HO_5.out (by decide))); have n1_ := q_ (blk_grown (g := gb388) (o := .cells #[.int .i64 t383, .int .i64 t384, .int .i64 t385] 67 (0, 0)) z98_ hg (Kd.R_away HO_5.out (fun _ hk => hk.2))); have n2_ := q_ (below_weaken z66_ HL.out hb); have n3_ := q_ (KeepBut.trans z39_ (KeepBut.of_grown hg g) (Kd.R_base2 HO_5.out)); have n4_ := q_ (ho); clear HI0; clear BK388; clear HB; clear HK; clear HO_5; have HI0 := n0_; have BK388 := n1_; have HB := n2_; have HK := n3_; have HO397 := n4_; clear n0_ n1_ n2_ n3_ n4_; clear ho hb hg hat))
      go_roundg k1
      case measure => have := HK1.out; omega
      case rel => exact ⟨(y395), (wrap64 (x7_1 + 1)), (t390), (t391), z7_, H', ⟨z74_⟩, ⟨by (with_reducible repeat (first | apply Kd.R_alloc | apply Kd.R_drewN | apply Kd.R_drew)); exact Kd.R_mono HO397.out (fun _ hk => trivial)⟩, ⟨z48_⟩, ⟨z39_⟩, ⟨z66_⟩⟩
     ·rw [if_neg c19] at H
      exact absurd H (by simp)
   ·rw [if_neg c7] at H
    have c7b0 : decide (x7_1 < t380) = false := decide_eq_false c7
    clear c7
    simp only [Option.some.injEq, Prod.mk.injEq] at H
    obtain ⟨rfl, rfl, rfl⟩ := H
    go_wp2
    go_ret
    exact ⟨_, z5_, z36_, z4_, z6_, z2_⟩

/-! ### spec_DrawMapAll: function 64 -/
def spec_DrawMapAll.f (k : Nat) (l0 : List Int) : Option ((List (S147)) × (List (S67))) := (spec_l1New.f k l0).bind fun bt398 => ((spec_l1DrawBadMap.f k bt398.1 bt398.2.1 bt398.2.2).bind fun bt402 => ((spec_l1DrawMsgs.f k bt398.1 bt402.2.1 bt402.2.2 12).bind fun bt407 => (some (bt402.1, bt407.1))))
theorem spec_DrawMapAll.mono : ∀ a0 k, LeO (spec_DrawMapAll.f k a0) (spec_DrawMapAll.f (k + 1) a0) := by
 intro a0 k
 unfold spec_DrawMapAll.f
 repeat' first
   | (with_reducible exact spec_l1DrawBadMap.mono _ _ _ _)
   | (with_reducible exact spec_l1DrawMsgs.mono _ _ _ _ _)
   | (with_reducible exact spec_l1New.mono _ _)
   | (with_reducible exact LeO.refl _)
   | (with_reducible exact LeO.none _)
   | (with_reducible refine LeO.ite ?_ ?_)
   | (with_reducible refine LeO.bind ?_ (fun _ => ?_))
   | exact spec_l1DrawBadMap.mono _ _ _ _
   | exact spec_l1DrawMsgs.mono _ _ _ _ _
   | exact spec_l1New.mono _ _
   | exact LeO.none _
   | refine LeO.ite ?_ ?_
   | refine LeO.bind ?_ (fun _ => ?_)
set_option maxHeartbeats 8000000 in
set_option maxRecDepth 100000 in
theorem spec_DrawMapAll.calls (k : Nat) (A0 : Option Addr) (c0 : Nat) (l0 : List Int) (r1 : List (S147)) (r2 : List (S67)) (w : World) (hr0 : Kd.C (Kd.int .u8) w A0 l0.length l0) (hc0 : l0.length ≤ c0) (h : spec_DrawMapAll.f k l0 = some (r1, r2)) :
  Calls Try.prog 64 #[.slice A0 l0.length c0] w fun e w' => ∃ v0_ v1_ : Value, e = .returned (.tuple #[v0_, v1_]) ∧ Kd.R k147 147 w' w.heap.size (fun _ => True) v0_ r1 ∧ Kd.R k67 67 w' w.heap.size (fun _ => True) v1_ r2 ∧ Below w.heap.size w w' := by
 have HR0 := q_ hr0
 have HC0 := q_ hc0
 clear hr0 hc0
 have HB := q_ (Below.refl w.heap.size w)
 have H : ((spec_l1New.f k l0).bind fun bt398 => ((spec_l1DrawBadMap.f k bt398.1 bt398.2.1 bt398.2.2).bind fun bt402 => ((spec_l1DrawMsgs.f k bt398.1 bt402.2.1 bt402.2.2 12).bind fun bt407 => (some (bt402.1, bt407.1))))) = some (r1, r2) := h
 clear h
 replace H := Option.bind_eq_some_iff.mp H
 obtain ⟨⟨t398, t399, t400⟩, A20, H⟩ := H
 replace H : ((spec_l1DrawBadMap.f k t398 t399 t400).bind fun bt402 => ((spec_l1DrawMsgs.f k t398 bt402.2.1 bt402.2.2 12).bind fun bt407 => (some (bt402.1, bt407.1)))) = some (r1, r2) := H
 have A2 := q_ A20
 clear A20
 replace H := Option.bind_eq_some_iff.mp H
 obtain ⟨⟨t402, t405, t406⟩, A30, H⟩ := H
 replace H : ((spec_l1DrawMsgs.f k t398 t405 t406 12).bind fun bt407 => (some (t402, bt407.1))) = some (r1, r2) := H
 have A3 := q_ A30
 clear A30
 replace H := Option.bind_eq_some_iff.mp H
 obtain ⟨⟨t407, t410, t411⟩, A40, H⟩ := H
 replace H : (some (t402, t407)) = some (r1, r2) := H
 have A4 := q_ A40
 clear A40
 simp only [Option.some.injEq, Prod.mk.injEq] at H
 obtain ⟨rfl, rfl⟩ := H
 go_enter Try.func64, Try.ntmps64
 go_wp2_with (first | ((with_reducible refine gate_callee (f := 123) rfl ?_); refine goesL_ (some 7) rfl rfl Try.func123 (by kernel_rfl) rfl #[.slice A0 l0.length c0] rfl z1_ ?_; (with_reducible refine (spec_l1New.calls k _ _ l0 t398 t399 t400 w _ ?side1 ?side2 ?side3 A2.out).mono ?_); (case side1 => exact z159_); (case side2 => exact HR0.out); (case side3 => exact HC0.out); rintro e w5 ⟨g401, rfl, hi, hb, hb2⟩; refine ⟨_, rfl, ?_⟩; have n0_ := q_ (hb); have n1_ := q_ (hi); clear HB; have HB := n0_; have HI401 := n1_; clear n0_ n1_; (try clear hb); (try clear hb2); (try clear hk); (try clear hi)) | ((with_reducible refine gate_callee (f := 133) rfl ?_); refine goesL_ (some 9) rfl rfl Try.func133 (by kernel_rfl) rfl #[.pointer (some ⟨g401, 0, none⟩)] rfl z1_ ?_; (with_reducible refine (spec_l1DrawBadMap.calls k g401 t398 t399 t400 t402 t405 t406 w _ ?side1 ?side2 A3.out).mono ?_); (case side1 => exact z173_); (case side2 => exact z174_); rintro e w6 ⟨v403, rfl, ho0, hi, hb, hk⟩; refine ⟨_, rfl, ?_⟩; have n0_ := q_ (Kd.R_lower ho0 (below_size z79_)); have n1_ := q_ (hb); have n2_ := q_ (hi); clear HB; clear HI401; have HO404 := n0_; have HB := n1_; have HI401 := n2_; clear n0_ n1_ n2_; (try clear hb); (try clear hb2); (try clear hk); (try clear hi); (try clear ho0)) | ((with_reducible refine gate_callee (f := 140) rfl ?_); refine goesL_ (some 12) rfl rfl Try.func140 (by kernel_rfl) rfl #[.pointer (some ⟨g401, 0, none⟩), .int .i64 12] rfl z1_ ?_; (with_reducible refine (spec_l1DrawMsgs.calls k g401 t398 t405 t406 12 t407 t410 t411 w _ ?side1 ?side2 A4.out).mono ?_); (case side1 => exact z173_); (case side2 => exact z174_); rintro e w7 ⟨v408, rfl, ho0, hi, hb, hk⟩; refine ⟨_, rfl, ?_⟩; have n0_ := q_ (Kd.R_mono (Kd.R_keep (IsS189.apart (show IsS189 w _ g401 t398 t405 t406 from by repeat (first | (with_reducible first | exact HI401.out | apply IsS189.alloc | apply IsS189.drewN | apply IsS189.drew | apply IsS189.set_1 | apply IsS189.set_2) | exact HI401.out)) z106_ (by decide)) hk (fun _ h => h.2)) (fun _ h => h.1)); have n1_ := q_ (Kd.R_lower ho0 (below_size z79_)); have n2_ := q_ (hb); have n3_ := q_ (hi); clear HO404; clear HB; clear HI401; have HO404 := n0_; have HO409 := n1_; have HB := n2_; have HI401 := n3_; clear n0_ n1_ n2_ n3_; (try clear hb); (try clear hb2); (try clear hk); (try clear hi); (try clear ho0)))
 go_ret2
 exact ⟨_, _, z5_, z106_, by (with_reducible repeat (first | apply Kd.R_alloc | apply Kd.R_drewN | apply Kd.R_drew)); exact HO409.out, z79_⟩

/-! ### spec_DrawShrink: function 68 -/
def spec_DrawShrink.f (k : Nat) (l0 : List Int) : Option ((List (S67))) := (spec_l1New.f k l0).bind fun bt412 => ((spec_l1DrawMsgs.f k bt412.1 bt412.2.1 bt412.2.2 14).bind fun bt416 => (some bt416.1))
theorem spec_DrawShrink.mono : ∀ a0 k, LeO (spec_DrawShrink.f k a0) (spec_DrawShrink.f (k + 1) a0) := by
 intro a0 k
 unfold spec_DrawShrink.f
 repeat' first
   | (with_reducible exact spec_l1DrawMsgs.mono _ _ _ _ _)
   | (with_reducible exact spec_l1New.mono _ _)
   | (with_reducible exact LeO.refl _)
   | (with_reducible exact LeO.none _)
   | (with_reducible refine LeO.ite ?_ ?_)
   | (with_reducible refine LeO.bind ?_ (fun _ => ?_))
   | exact spec_l1DrawMsgs.mono _ _ _ _ _
   | exact spec_l1New.mono _ _
   | exact LeO.none _
   | refine LeO.ite ?_ ?_
   | refine LeO.bind ?_ (fun _ => ?_)
set_option maxHeartbeats 8000000 in
set_option maxRecDepth 100000 in
theorem spec_DrawShrink.calls (k : Nat) (A0 : Option Addr) (c0 : Nat) (l0 : List Int) (r : List (S67)) (w : World) (hr0 : Kd.C (Kd.int .u8) w A0 l0.length l0) (hc0 : l0.length ≤ c0) (h : spec_DrawShrink.f k l0 = some r) :
  Calls Try.prog 68 #[.slice A0 l0.length c0] w fun e w' => ∃ v0_ : Value, e = .returned (v0_) ∧ Kd.R k67 67 w' w.heap.size (fun _ => True) v0_ r ∧ Below w.heap.size w w' := by
 have HR0 := q_ hr0
 have HC0 := q_ hc0
 clear hr0 hc0
 have HB := q_ (Below.refl w.heap.size w)
 have H : ((spec_l1New.f k l0).bind fun bt412 => ((spec_l1DrawMsgs.f k bt412.1 bt412.2.1 bt412.2.2 14).bind fun bt416 => (some bt416.1))) = some r := h
 clear h
 replace H := Option.bind_eq_some_iff.mp H
 obtain ⟨⟨t412, t413, t414⟩, A20, H⟩ := H
 replace H : ((spec_l1DrawMsgs.f k t412 t413 t414 14).bind fun bt416 => (some bt416.1)) = some r := H
 have A2 := q_ A20
 clear A20
 replace H := Option.bind_eq_some_iff.mp H
 obtain ⟨⟨t416, t419, t420⟩, A30, H⟩ := H
 replace H : (some t416) = some r := H
 have A3 := q_ A30
 clear A30
 obtain rfl := Option.some.inj H
 go_enter Try.func68, Try.ntmps68
 go_wp2_with (first | ((with_reducible refine gate_callee (f := 123) rfl ?_); refine goesL_ (some 4) rfl rfl Try.func123 (by kernel_rfl) rfl #[.slice A0 l0.length c0] rfl z1_ ?_; (with_reducible refine (spec_l1New.calls k _ _ l0 t412 t413 t414 w _ ?side1 ?side2 ?side3 A2.out).mono ?_); (case side1 => exact z159_); (case side2 => exact HR0.out); (case side3 => exact HC0.out); rintro e w4 ⟨g415, rfl, hi, hb, hb2⟩; refine ⟨_, rfl, ?_⟩; have n0_ := q_ (hb); have n1_ := q_ (hi); clear HB; have HB := n0_; have HI415 := n1_; clear n0_ n1_; (try clear hb); (try clear hb2); (try clear hk); (try clear hi)) | ((with_reducible refine gate_callee (f := 140) rfl ?_); refine goesL_ (some 5) rfl rfl Try.func140 (by kernel_rfl) rfl #[.pointer (some ⟨g415, 0, none⟩), .int .i64 14] rfl z1_ ?_; (with_reducible refine (spec_l1DrawMsgs.calls k g415 t412 t413 t414 14 t416 t419 t420 w _ ?side1 ?side2 A3.out).mono ?_); (case side1 => repeat (first | (with_reducible first | exact HI415.out | apply IsS189.alloc | apply IsS189.drewN | apply IsS189.drew | apply IsS189.set_1 | apply IsS189.set_2) | exact HI415.out)); (case side2 => repeat (first | (with_reducible first | exact HB.out | apply below_alloc | apply pw_below_drewN | apply below_drew1 | refine below_set ?_ (IsS189.ge HI415.out)) | exact HB.out)); rintro e w5 ⟨v417, rfl, ho0, hi, hb, hk⟩; refine ⟨_, rfl, ?_⟩; have n0_ := q_ (Kd.R_lower ho0 (below_size z87_)); have n1_ := q_ (hb); have n2_ := q_ (hi); clear HB; clear HI415; have HO418 := n0_; have HB := n1_; have HI415 := n2_; clear n0_ n1_ n2_; (try clear hb); (try clear hb2); (try clear hk); (try clear hi); (try clear ho0)))
 go_ret
 exact ⟨_, z5_, by (with_reducible repeat (first | apply Kd.R_alloc | apply Kd.R_drewN | apply Kd.R_drew)); exact HO418.out, z87_⟩

end Go.Proofs.Ytphlmbhjeoljoaa.PFnShrunk
