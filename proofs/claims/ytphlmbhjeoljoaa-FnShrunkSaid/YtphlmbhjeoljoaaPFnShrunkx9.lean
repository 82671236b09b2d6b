-- Written by a program of this session, which goes by the kit's print. Not trusted: Lean checks it.
import Derived.Test.YtphlmbhjeoljoaaPFnShrunkx0
import Derived.Test.YtphlmbhjeoljoaaPFnShrunkx7
import Derived.Test.YtphlmbhjeoljoaaPFnShrunkx8
namespace Go.Proofs.Ytphlmbhjeoljoaa.PFnShrunk
open Go.RowKit Go.Proofs.YtphlmbhjeoljoaaW.PrintWords Go.Proofs.YtphlmbhjeoljoaaW.PrintLast Go.Proofs.YtphlmbhjeoljoaaW.PrintMore
attribute [local go_sem] max2_int min2_int max_two min_two max_three min_three max_four min_four   -- for this text's walks alone
set_option linter.unusedVariables false
set_option linter.unusedSimpArgs false

/-! ### impl_changed: function 131 -/
mutual
def impl_changed.j0 : Nat → List (S147) → Int → Bool → Int → Bool → Int → Int → Int → Option ((List (S147)))
 | 0, _, _, _, _, _, _, _, _ => none
 | k + 1, x0, x5, x6, x7, x22, x205000, x205001, x205002 => if x22 = true then ((slices_Delete_Pair.f x0 x5 (wrap64 (x5 + 1))).bind fun t207 => (some t207)) else (if x205000 = 2 then (some x0) else (if x205000 = 3 then (impl_changed.j1 k x0 x5 x6 x7 x6 x205000 x205001 x205002) else (impl_changed.j1 k x0 x5 x6 x7 false x205000 x205001 x205002)))
def impl_changed.j1 : Nat → List (S147) → Int → Bool → Int → Bool → Int → Int → Int → Option ((List (S147)))
 | 0, _, _, _, _, _, _, _, _ => none
 | k + 1, x0, x5, x6, x7, x39, x205000, x205001, x205002 => if x39 = true then (if 0 ≤ x5 then (if x5 < (x0.length : Int) then ((impl_limited.f (wrap64 (((rd_T147 x0 x5).f1) + x205002))).bind fun t211 => (if x6 = true then (some (x0.set (x5 : Int).toNat (⟨(rd_T147 x0 x5).f0, t211⟩ : S147))) else ((slices_Insert_Pair.f x0 x5 (([(⟨x205001, t211⟩ : S147)] : List (S147)))).bind fun t216 => (some t216)))) else (none)) else (none)) else (if x6 = true then (if 0 ≤ x5 then (if x5 < (x0.length : Int) then (some (x0.set (x5 : Int).toNat (⟨(rd_T147 x0 x5).f0, x7⟩ : S147))) else (none)) else (none)) else ((slices_Insert_Pair.f x0 x5 (([(⟨x205001, x7⟩ : S147)] : List (S147)))).bind fun t223 => (some t223)))
end
def impl_changed.f (k : Nat) (l0 : List (S147)) (a1_0 : Int) (a1_1 : Int) (a1_2 : Int) : Option ((List (S147))) := (slices_BinarySearchFunc_Pair_171.f k l0 a1_1).bind fun bt205 => (if a1_0 = 4 then (some l0) else (if a1_0 = 2 then (impl_changed.j0 k l0 bt205.1 bt205.2 a1_2 bt205.2 a1_0 a1_1 a1_2) else (impl_changed.j0 k l0 bt205.1 bt205.2 a1_2 false a1_0 a1_1 a1_2)))
theorem impl_changed.mono_l : ∀ k, (∀ y0 y1 y2 y3 y4 y5 y6 y7, LeO (impl_changed.j0 k y0 y1 y2 y3 y4 y5 y6 y7) (impl_changed.j0 (k + 1) y0 y1 y2 y3 y4 y5 y6 y7)) ∧ (∀ y0 y1 y2 y3 y4 y5 y6 y7, LeO (impl_changed.j1 k y0 y1 y2 y3 y4 y5 y6 y7) (impl_changed.j1 (k + 1) y0 y1 y2 y3 y4 y5 y6 y7))
 | 0 => ⟨fun _ _ _ _ _ _ _ _ r h => by simp [impl_changed.j0] at h, fun _ _ _ _ _ _ _ _ r h => by simp [impl_changed.j1] at h⟩
 | k + 1 => by
  obtain ⟨ih0, ih1⟩ := impl_changed.mono_l k
  refine ⟨?_, ?_⟩
  ·intro y0 y1 y2 y3 y4 y5 y6 y7
   unfold impl_changed.j0
   repeat' first
   | (with_reducible exact ih0 _ _ _ _ _ _ _ _)
   | (with_reducible exact ih1 _ _ _ _ _ _ _ _)
   | (with_reducible exact slices_BinarySearchFunc_Pair_171.mono _ _ _)
   | (with_reducible exact LeO.refl _)
   | (with_reducible exact LeO.none _)
   | (with_reducible refine LeO.ite ?_ ?_)
   | (with_reducible refine LeO.bind ?_ (fun _ => ?_))
   | exact ih0 _ _ _ _ _ _ _ _
   | exact ih1 _ _ _ _ _ _ _ _
   | exact slices_BinarySearchFunc_Pair_171.mono _ _ _
   | exact LeO.none _
   | refine LeO.ite ?_ ?_
   | refine LeO.bind ?_ (fun _ => ?_)
  ·intro y0 y1 y2 y3 y4 y5 y6 y7
   unfold impl_changed.j1
   repeat' first
   | (with_reducible exact ih0 _ _ _ _ _ _ _ _)
   | (with_reducible exact ih1 _ _ _ _ _ _ _ _)
   | (with_reducible exact slices_BinarySearchFunc_Pair_171.mono _ _ _)
   | (with_reducible exact LeO.refl _)
   | (with_reducible exact LeO.none _)
   | (with_reducible refine LeO.ite ?_ ?_)
   | (with_reducible refine LeO.bind ?_ (fun _ => ?_))
   | exact ih0 _ _ _ _ _ _ _ _
   | exact ih1 _ _ _ _ _ _ _ _
   | exact slices_BinarySearchFunc_Pair_171.mono _ _ _
   | exact LeO.none _
   | refine LeO.ite ?_ ?_
   | refine LeO.bind ?_ (fun _ => ?_)
theorem impl_changed.mono : ∀ a0 a1 a2 a3 k, LeO (impl_changed.f k a0 a1 a2 a3) (impl_changed.f (k + 1) a0 a1 a2 a3) := by
 intro a0 a1 a2 a3 k
 obtain ⟨ih0, ih1⟩ := impl_changed.mono_l k
 unfold impl_changed.f
 repeat' first
   | (with_reducible exact ih0 _ _ _ _ _ _ _ _)
   | (with_reducible exact ih1 _ _ _ _ _ _ _ _)
   | (with_reducible exact slices_BinarySearchFunc_Pair_171.mono _ _ _)
   | (with_reducible exact LeO.refl _)
   | (with_reducible exact LeO.none _)
   | (with_reducible refine LeO.ite ?_ ?_)
   | (with_reducible refine LeO.bind ?_ (fun _ => ?_))
   | exact ih0 _ _ _ _ _ _ _ _
   | exact ih1 _ _ _ _ _ _ _ _
   | exact slices_BinarySearchFunc_Pair_171.mono _ _ _
   | exact LeO.none _
   | refine LeO.ite ?_ ?_
   | refine LeO.bind ?_ (fun _ => ?_)
def impl_changed.T10 : Bool × List (List Nat × List Nat) := (true, [([], []), ([], []), ([0, 1], [0, 1]), ([2], [2]), ([3], [3]), ([], []), ([5], [5]), ([4, 6], [4, 6]), ([7], [7]), ([8, 8, 0, 1, 2, 3, 4, 5, 6, 7, 8], [8])])
def impl_changed.B10 : List Nat := [0, 0, 3, 7, 15, 0, 32, 127, 255, 511]
theorem impl_changed.tab10 : rtab .any (opsOf Try.f131 10) = impl_changed.T10 := by kernel_rfl
theorem impl_changed.bits10 : waitsOk impl_changed.T10.2 impl_changed.B10 = true := by kernel_rfl
set_option maxHeartbeats 8000000 in
set_option maxRecDepth 100000 in
theorem impl_changed.calls (k : Nat) (P0_ : Nat → Prop) (u9000_ : Value) (l0 : List (S147)) (a1_0 : Int) (a1_1 : Int) (a1_2 : Int) (r : List (S147)) (w0 w : World) (hB : Below w0.heap.size w0 w) (ho0 : Kd.R k147 147 w w0.heap.size P0_ u9000_ l0) (h : impl_changed.f k l0 a1_0 a1_1 a1_2 = some r) :
  Calls Try.prog 131 #[u9000_, .agg #[.int .i64 a1_0, .int .i64 a1_1, .int .i64 a1_2]] w fun e w' => ∃ v0_ : Value, e = .returned (v0_) ∧ Kd.R k147 147 w' w0.heap.size (fun k_ => (P0_ k_ ∨ w.heap.size ≤ k_)) v0_ r ∧ Below w0.heap.size w0 w' ∧ Kept w w' (fun k_ => P0_ k_) := by
 have hu67 := Try.underlying67
 have hu147 := Try.underlying147
 have HO0 := q_ (show Kd.R k147 147 w w0.heap.size (fun k_ => (P0_ k_ ∨ w.heap.size ≤ k_)) u9000_ l0 from Kd.R_mono ho0 (fun k_ hk => (.inl hk)))
 have HK := q_ (Kept.refl w (fun k_ => P0_ k_))
 have HW0 := q_ hB.size
 have HB := q_ hB
 clear hB
 have H : ((slices_BinarySearchFunc_Pair_171.f k l0 a1_1).bind fun bt205 => (if a1_0 = 4 then (some l0) else (if a1_0 = 2 then (impl_changed.j0 k l0 bt205.1 bt205.2 a1_2 bt205.2 a1_0 a1_1 a1_2) else (impl_changed.j0 k l0 bt205.1 bt205.2 a1_2 false a1_0 a1_1 a1_2)))) = some r := h
 clear h
 replace H := Option.bind_eq_some_iff.mp H
 obtain ⟨⟨t205, t206⟩, A30, H⟩ := H
 replace H : (if a1_0 = 4 then (some l0) else (if a1_0 = 2 then (impl_changed.j0 k l0 t205 t206 a1_2 t206 a1_0 a1_1 a1_2) else (impl_changed.j0 k l0 t205 t206 a1_2 false a1_0 a1_1 a1_2))) = some r := H
 have A3 := q_ A30
 clear A30
 by_cases c4 : a1_0 = 4
 ·rw [if_pos c4] at H
  have c4b0 : (a1_0 == 4) = true := beq_iff_eq.mpr c4
  have c4b1 : (a1_0 != 4) = false := bne_eq_false_iff_eq.mpr c4
  clear c4
  obtain rfl := Option.some.inj H
  go_enter Try.func131, Try.ntmps131
  go_wp2_with (first | ((with_reducible refine gate_dst (N := 3) rfl ?_); refine box_event ?hg (N := 3) ?hd (cs := #[.int .i64 a1_0, .int .i64 a1_1, .int .i64 a1_2]) (t := 67) ?hr ?_; (case hd => rfl); (case hg => rfl); (case hr => exact z148_); intro gb204 hg w5 hbox hb; have n0_ := q_ (Kd.R_below z53_ hb); have n1_ := q_ (Kept.below (S := (fun k_ => P0_ k_)) z9_ hb); have n2_ := q_ (below_step z0_ hb); have n3_ := q_ (hbox); have n4_ := q_ ((z145_ : w.heap.size ≤ gb204)); have n5_ := q_ ((z119_ : w0.heap.size ≤ gb204)); clear HO0; clear HK; clear HB; have HO0 := n0_; have HK := n1_; have HB := n2_; have BK204 := n3_; have GW204 := n4_; have GE204 := n5_; clear n0_ n1_ n2_ n3_ n4_ n5_; clear hb hbox hg; obtain ⟨hcz6_0, hcz6_1, hcz6_2, hfz6_0, hfz6_1, hfz6_2⟩ := cs3_ BK204.out; obtain ⟨Ao7, co7, eo7⟩ := Kd.R_slice HO0.out; subst eo7) | ((with_reducible refine gate_callee (f := 170) rfl ?_); refine goesL_ (some 12) rfl rfl Try.func170 (by kernel_rfl) rfl #[.slice Ao7 l0.length co7, .int .i64 a1_1, .func (.func 171) #[] #[]] rfl z1_ ?_; (with_reducible refine (slices_BinarySearchFunc_Pair_171.calls k _ _ l0 a1_1  t205 t206 _ ?side1 ?side2 A3.out).mono ?_); (case side1 => exact z163_); (case side2 => exact (Kd.R_reads' HO0.out).2.1); rintro e w8 ⟨rfl, hb⟩; refine ⟨_, rfl, ?_⟩; have n0_ := q_ (Kd.R_below z53_ hb); have n1_ := q_ (blk_below (g := gb204) (o := .cells #[.int .i64 a1_0, .int .i64 a1_1, .int .i64 a1_2] 67 (0, 0)) z59_ hb); have n2_ := q_ (Kept.below (S := (fun k_ => P0_ k_)) z30_ hb); have n3_ := q_ (below_step z33_ hb); clear HO0; clear BK204; clear HK; clear HB; have HO0 := n0_; have BK204 := n1_; have HK := n2_; have HB := n3_; clear n0_ n1_ n2_ n3_; (try clear hb); (try clear hb2); (try clear hk); (try clear hi); obtain ⟨hcz9_0, hcz9_1, hcz9_2, hfz9_0, hfz9_1, hfz9_2⟩ := cs3_ BK204.out))
  go_ret
  exact ⟨_, z5_, z53_, z33_, z30_⟩
 ·rw [if_neg c4] at H
  have c4b0 : (a1_0 == 4) = false := beq_eq_false_iff_ne.mpr c4
  have c4b1 : (a1_0 != 4) = true := bne_iff_ne.mpr c4
  have HC10 := q_ H
  clear H
  go_enter Try.func131, Try.ntmps131
  go_upto_region 5 with (first | ((with_reducible refine gate_dst (N := 3) rfl ?_); refine box_event ?hg (N := 3) ?hd (cs := #[.int .i64 a1_0, .int .i64 a1_1, .int .i64 a1_2]) (t := 67) ?hr ?_; (case hd => rfl); (case hg => rfl); (case hr => exact z148_); intro gb204 hg w11 hbox hb; have n0_ := q_ (Kd.R_below z53_ hb); have n1_ := q_ (Kept.below (S := (fun k_ => P0_ k_)) z9_ hb); have n2_ := q_ (below_step z0_ hb); have n3_ := q_ (hbox); have n4_ := q_ ((z145_ : w.heap.size ≤ gb204)); have n5_ := q_ ((z119_ : w0.heap.size ≤ gb204)); clear HO0; clear HK; clear HB; have HO0 := n0_; have HK := n1_; have HB := n2_; have BK204 := n3_; have GW204 := n4_; have GE204 := n5_; clear n0_ n1_ n2_ n3_ n4_ n5_; clear hb hbox hg; obtain ⟨hcz12_0, hcz12_1, hcz12_2, hfz12_0, hfz12_1, hfz12_2⟩ := cs3_ BK204.out; obtain ⟨Ao13, co13, eo13⟩ := Kd.R_slice HO0.out; subst eo13) | ((with_reducible refine gate_callee (f := 170) rfl ?_); refine goesL_ (some 12) rfl rfl Try.func170 (by kernel_rfl) rfl #[.slice Ao13 l0.length co13, .int .i64 a1_1, .func (.func 171) #[] #[]] rfl z1_ ?_; (with_reducible refine (slices_BinarySearchFunc_Pair_171.calls k _ _ l0 a1_1  t205 t206 _ ?side1 ?side2 A3.out).mono ?_); (case side1 => exact z163_); (case side2 => exact (Kd.R_reads' HO0.out).2.1); rintro e w14 ⟨rfl, hb⟩; refine ⟨_, rfl, ?_⟩; have n0_ := q_ (Kd.R_below z53_ hb); have n1_ := q_ (blk_below (g := gb204) (o := .cells #[.int .i64 a1_0, .int .i64 a1_1, .int .i64 a1_2] 67 (0, 0)) z59_ hb); have n2_ := q_ (Kept.below (S := (fun k_ => P0_ k_)) z30_ hb); have n3_ := q_ (below_step z33_ hb); clear HO0; clear BK204; clear HK; clear HB; have HO0 := n0_; have BK204 := n1_; have HK := n2_; have HB := n3_; clear n0_ n1_ n2_ n3_; (try clear hb); (try clear hb2); (try clear hk); (try clear hi); obtain ⟨hcz15_0, hcz15_1, hcz15_2, hfz15_0, hfz15_1, hfz15_2⟩ := cs3_ BK204.out))
  (try simp only [Act.put, List.setIfInBounds_toArray, List.set_cons_zero, List.set_cons_succ])
  go_cut [22] (fun v22 wc => ∃ (kq : Nat) (x22_9 : Bool), v22 = .bool x22_9 ∧ Aside0 (impl_changed.j0 kq l0 t205 t206 a1_2 x22_9 a1_0 a1_1 a1_2 = some r) ∧ Aside0 (kq ≤ k) ∧ Aside0 (Kd.R k147 147 wc w0.heap.size (fun k_ => (P0_ k_ ∨ w.heap.size ≤ k_)) (.slice Ao13 l0.length co13) l0) ∧ Aside0 (wc.heap[gb204]? = some (.cells #[.int .i64 a1_0, .int .i64 a1_1, .int .i64 a1_2] 67 (0, 0))) ∧ Aside0 (Kept w wc (fun k_ => P0_ k_)) ∧ Aside0 (Below w0.heap.size w0 wc))
  case first =>
   have H := HC10.out
   clear HC10
   by_cases c16 : a1_0 = 2
   ·rw [if_pos c16] at H
    have c16b0 : (a1_0 == 2) = true := beq_iff_eq.mpr c16
    have c16b1 : (a1_0 != 2) = false := bne_eq_false_iff_eq.mpr c16
    clear c16
    (first | rw [c16b0] | (simp only [i64_w, i32_w]; rw [c16b0]) | skip)
    have H' := q_ H
    clear H
    obtain ⟨hcz17_0, hcz17_1, hcz17_2, hfz17_0, hfz17_1, hfz17_2⟩ := cs3_ BK204.out
    go_wp2
    go_meet
    case rel => exact ⟨_, (t206), z7_, H', ⟨z88_⟩, ⟨z53_⟩, ⟨z59_⟩, ⟨z30_⟩, ⟨z33_⟩⟩
   ·rw [if_neg c16] at H
    have c16b0 : (a1_0 == 2) = false := beq_eq_false_iff_ne.mpr c16
    have c16b1 : (a1_0 != 2) = true := bne_iff_ne.mpr c16
    (first | rw [c16b0] | (simp only [i64_w, i32_w]; rw [c16b0]) | skip)
    have H' := q_ H
    clear H
    obtain ⟨hcz18_0, hcz18_1, hcz18_2, hfz18_0, hfz18_1, hfz18_2⟩ := cs3_ BK204.out
    go_wp2
    go_meet
    case rel => exact ⟨_, (false), z7_, H', ⟨z88_⟩, ⟨z53_⟩, ⟨z59_⟩, ⟨z30_⟩, ⟨z33_⟩⟩
  case rest =>
   clear HC10
   try clear c1
   try clear p2
   try clear c4
   try clear c4b0
   try clear c4b1
   try clear c11
   try clear c13
   try clear c16
   try clear c16b0
   try clear c16b1
   try clear hcz12_0
   try clear hcz12_1
   try clear hcz12_2
   try clear hcz15_0
   try clear hcz15_1
   try clear hcz15_2
   try clear hcz17_0
   try clear hcz17_1
   try clear hcz17_2
   try clear hcz18_0
   try clear hcz18_1
   try clear hcz18_2
   try clear hcz6_0
   try clear hcz6_1
   try clear hcz6_2
   try clear hcz9_0
   try clear hcz9_1
   try clear hcz9_2
   try clear hfz12_0
   try clear hfz12_1
   try clear hfz12_2
   try clear hfz15_0
   try clear hfz15_1
   try clear hfz15_2
   try clear hfz17_0
   try clear hfz17_1
   try clear hfz17_2
   try clear hfz18_0
   try clear hfz18_1
   try clear hfz18_2
   try clear hfz6_0
   try clear hfz6_1
   try clear hfz6_2
   try clear hfz9_0
   try clear hfz9_1
   try clear hfz9_2
   obtain ⟨kq, x22_9, rfl, HA, HJ9, HO_0, BK204, HK, HB⟩ := hcut
   cases kq with
   | zero => exact absurd HA.out (by simp [impl_changed.j0])
   | succ kj9 =>
    have H := HA.out
    clear HA
    simp only [impl_changed.j0] at H
    by_cases c19 : x22_9 = true
    ·subst c19
     have H1 : ((slices_Delete_Pair.f l0 t205 (wrap64 (t205 + 1))).bind fun t207 => (some t207)) = some r := z58_
     clear H
     have H := H1
     clear H1
     replace H := Option.bind_eq_some_iff.mp H
     obtain ⟨t207, A200, H⟩ := H
     replace H : (some t207) = some r := H
     have A20 := q_ A200
     clear A200
     obtain rfl := Option.some.inj H
     go_wp2_with (first | ((with_reducible refine gate_callee (f := 172) rfl ?_); refine goesL_ (some 33) rfl rfl Try.func172 (by kernel_rfl) rfl #[.slice Ao13 l0.length co13, .int .i64 t205, .int .i64 (wrap64 (t205 + 1))] rfl z1_ ?_; (with_reducible refine (slices_Delete_Pair.calls (fun k_ => some k_ = (.slice Ao13 l0.length co13 : Value).ownBlock) (.slice Ao13 l0.length co13) l0 t205 (wrap64 (t205 + 1)) t207 w0 _ ?side1 ?side2 A20.out).mono ?_); (case side1 => exact z159_); (case side2 => exact Kd.R_tight rfl HO_0.out); rintro e w21 ⟨v208, rfl, ho0, hb, hkp⟩; refine ⟨_, rfl, ?_⟩; have n0_ := q_ (Kd.R_mono (ok' := fun k_ => (P0_ k_ ∨ w.heap.size ≤ k_)) ho0 (fun k_ hk_ => Or.elim hk_ (fun hs_ => (HO_0.out.1 k_ (hs_).symm)) (fun hn_ => (.inr (Nat.le_trans z121_ hn_))))); have n1_ := q_ (Kept.then_ (S := (fun k_ => P0_ k_)) z9_ hkp (fun k_ hs_ => (fun e_ => (HO_0.out.1 k_ e_.symm)) hs_)); have n2_ := q_ (hb); clear HK; clear HB; clear HO_0; have HO209 := n0_; have HK := n1_; have HB := n2_; clear n0_ n1_ n2_; (try clear hb); (try clear hkp); (try clear ho0)))
     go_ret
     exact ⟨_, z5_, by (with_reducible repeat (first | apply Kd.R_alloc | apply Kd.R_drewN | apply Kd.R_drew)); exact HO209.out, z0_, z9_⟩
    ·replace c19 := Bool.eq_false_iff.mpr c19
     subst c19
     have H1 : (if a1_0 = 2 then (some l0) else (if a1_0 = 3 then (impl_changed.j1 kj9 l0 t205 t206 a1_2 t206 a1_0 a1_1 a1_2) else (impl_changed.j1 kj9 l0 t205 t206 a1_2 false a1_0 a1_1 a1_2))) = some r := by rw [if_neg (show ¬ (false = true) by decide)] at H; exact H
     clear H
     have H := H1
     clear H1
     by_cases c22 : a1_0 = 2
     ·rw [if_pos c22] at H
      have c22b0 : (a1_0 == 2) = true := beq_iff_eq.mpr c22
      have c22b1 : (a1_0 != 2) = false := bne_eq_false_iff_eq.mpr c22
      clear c22
      obtain rfl := Option.some.inj H
      obtain ⟨hcz23_0, hcz23_1, hcz23_2, hfz23_0, hfz23_1, hfz23_2⟩ := cs3_ BK204.out
      go_wp2
      go_ret
      exact ⟨_, z5_, z32_, z33_, z30_⟩
     ·rw [if_neg c22] at H
      have c22b0 : (a1_0 == 2) = false := beq_eq_false_iff_ne.mpr c22
      have c22b1 : (a1_0 != 2) = true := bne_iff_ne.mpr c22
      have HC24 := q_ H
      clear H
      obtain ⟨hcz25_0, hcz25_1, hcz25_2, hfz25_0, hfz25_1, hfz25_2⟩ := cs3_ BK204.out
      go_upto_region 9 with (fail)
      go_cut [39] (fun v39 wc => ∃ (kq : Nat) (x39_23 : Bool), v39 = .bool x39_23 ∧ Aside0 (impl_changed.j1 kq l0 t205 t206 a1_2 x39_23 a1_0 a1_1 a1_2 = some r) ∧ Aside0 (kq ≤ kj9) ∧ Aside0 (Kd.R k147 147 wc w0.heap.size (fun k_ => (P0_ k_ ∨ w.heap.size ≤ k_)) (.slice Ao13 l0.length co13) l0) ∧ Aside0 (wc.heap[gb204]? = some (.cells #[.int .i64 a1_0, .int .i64 a1_1, .int .i64 a1_2] 67 (0, 0))) ∧ Aside0 (Kept w wc (fun k_ => P0_ k_)) ∧ Aside0 (Below w0.heap.size w0 wc))
      case first =>
       have H := HC24.out
       clear HC24
       by_cases c26 : a1_0 = 3
       ·rw [if_pos c26] at H
        have c26b0 : (a1_0 == 3) = true := beq_iff_eq.mpr c26
        have c26b1 : (a1_0 != 3) = false := bne_eq_false_iff_eq.mpr c26
        clear c26
        (first | rw [c26b0] | (simp only [i64_w, i32_w]; rw [c26b0]) | skip)
        have H' := q_ H
        clear H
        obtain ⟨hcz27_0, hcz27_1, hcz27_2, hfz27_0, hfz27_1, hfz27_2⟩ := cs3_ BK204.out
        go_wp2
        go_meet
        case rel => exact ⟨_, (t206), z7_, H', ⟨by have := HJ9.out; first | omega | exact Nat.le_refl _⟩, ⟨z32_⟩, ⟨z59_⟩, ⟨z30_⟩, ⟨z33_⟩⟩
       ·rw [if_neg c26] at H
        have c26b0 : (a1_0 == 3) = false := beq_eq_false_iff_ne.mpr c26
        have c26b1 : (a1_0 != 3) = true := bne_iff_ne.mpr c26
        (first | rw [c26b0] | (simp only [i64_w, i32_w]; rw [c26b0]) | skip)
        have H' := q_ H
        clear H
        obtain ⟨hcz28_0, hcz28_1, hcz28_2, hfz28_0, hfz28_1, hfz28_2⟩ := cs3_ BK204.out
        go_wp2
        go_meet
        case rel => exact ⟨_, (false), z7_, H', ⟨by have := HJ9.out; first | omega | exact Nat.le_refl _⟩, ⟨z32_⟩, ⟨z59_⟩, ⟨z30_⟩, ⟨z33_⟩⟩
      case rest =>
       clear HC24
       try clear c1
       try clear c2
       try clear p2
       try clear c4
       try clear c4b0
       try clear c4b1
       try clear p6
       try clear c11
       try clear c13
       try clear c16
       try clear c16b0
       try clear c16b1
       try clear c17
       try clear c19
       try clear c22
       try clear c22b0
       try clear c22b1
       try clear c26
       try clear c26b0
       try clear c26b1
       try clear hcz12_0
       try clear hcz12_1
       try clear hcz12_2
       try clear hcz15_0
       try clear hcz15_1
       try clear hcz15_2
       try clear hcz17_0
       try clear hcz17_1
       try clear hcz17_2
       try clear hcz18_0
       try clear hcz18_1
       try clear hcz18_2
       try clear hcz23_0
       try clear hcz23_1
       try clear hcz23_2
       try clear hcz25_0
       try clear hcz25_1
       try clear hcz25_2
       try clear hcz27_0
       try clear hcz27_1
       try clear hcz27_2
       try clear hcz28_0
       try clear hcz28_1
       try clear hcz28_2
       try clear hcz6_0
       try clear hcz6_1
       try clear hcz6_2
       try clear hcz9_0
       try clear hcz9_1
       try clear hcz9_2
       try clear hfz12_0
       try clear hfz12_1
       try clear hfz12_2
       try clear hfz15_0
       try clear hfz15_1
       try clear hfz15_2
       try clear hfz17_0
       try clear hfz17_1
       try clear hfz17_2
       try clear hfz18_0
       try clear hfz18_1
       try clear hfz18_2
       try clear hfz23_0
       try clear hfz23_1
       try clear hfz23_2
       try clear hfz25_0
       try clear hfz25_1
       try clear hfz25_2
       try clear hfz27_0
       try clear hfz27_1
       try clear hfz27_2
       try clear hfz28_0
       try clear hfz28_1
       try clear hfz28_2
       try clear hfz6_0
       try clear hfz6_1
       try clear hfz6_2
       try clear hfz9_0
       try clear hfz9_1
       try clear hfz9_2
       try clear p2
       obtain ⟨kq, x39_23, rfl, HA, HJ23, HO_0, BK204, HK, HB⟩ := hcut
       cases kq with
       | zero => exact absurd HA.out (by simp [impl_changed.j1])
       | succ kj23 =>
        have H := HA.out
        clear HA
        simp only [impl_changed.j1] at H
        by_cases c29 : x39_23 = true
        ·subst c29
         have H1 : (if 0 ≤ t205 then (if t205 < (l0.length : Int) then ((impl_limited.f (wrap64 (((rd_T147 l0 t205).f1) + a1_2))).bind fun t211 => (if t206 = true then (some (l0.set (t205 : Int).toNat (⟨(rd_T147 l0 t205).f0, t211⟩ : S147))) else ((slices_Insert_Pair.f l0 t205 (([(⟨a1_1, t211⟩ : S147)] : List (S147)))).bind fun t216 => (some t216)))) else (none)) else (none)) = some r := z58_
         clear H
         have H := H1
         clear H1
         by_cases c30 : 0 ≤ t205
         ·rw [if_pos c30] at H
          have c30b0 : decide (0 ≤ t205) = true := decide_eq_true c30
          clear c30
          by_cases c31 : t205 < (l0.length : Int)
          ·rw [if_pos c31] at H
           have c31b0 : decide (t205 < (l0.length : Int)) = true := decide_eq_true c31
           clear c31
           replace H := Option.bind_eq_some_iff.mp H
           obtain ⟨t211, A320, H⟩ := H
           replace H : (if t206 = true then (some (l0.set (t205 : Int).toNat (⟨(rd_T147 l0 t205).f0, t211⟩ : S147))) else ((slices_Insert_Pair.f l0 t205 (([(⟨a1_1, t211⟩ : S147)] : List (S147)))).bind fun t216 => (some t216))) = some r := H
           have A32 := q_ A320
           clear A320
           by_cases c33 : t206 = true
           ·subst c33
            have H1 : (some (l0.set (t205 : Int).toNat (⟨(rd_T147 l0 t205).f0, t211⟩ : S147))) = some r := z58_
            clear H
            have H := H1
            clear H1
            obtain ⟨y212, hy212⟩ : ∃ y_ : List (S147), y_ = (l0.set (t205 : Int).toNat (⟨(rd_T147 l0 t205).f0, t211⟩ : S147)) := ⟨_, rfl⟩
            replace H : (some y212) = some r := by first | (rw [hy212]; with_reducible exact H) | (have H2_ := (Option.bind_some _ _).symm.trans H; rw [hy212]; with_reducible exact H2_) | (have H2_ := (Option.bind_some _ _).symm.trans H; with_reducible exact H2_) | with_reducible exact H | (rw [hy212]; exact H) | exact H
            have Ny212 := q_ hy212
            clear hy212
            obtain rfl := Option.some.inj H
            try go_wp2
            have n0_ := q_ (Kd.R_drew HO_0.out)
            have n1_ := q_ (blk_drew BK204.out)
            have n2_ := q_ (Kept.drew HK.out)
            have n3_ := q_ (below_drew1 HB.out)
            clear HO_0
            clear BK204
            clear HK
            clear HB
            have HO_0 := n0_
            have BK204 := n1_
            have HK := n2_
            have HB := n3_
            clear n0_ n1_ n2_ n3_
            have p210 : 0 ≤ (t205 : Int) := of_decide_eq_true z3_
            have q210 : t205 < (l0.length : Int) := of_decide_eq_true z3_
            obtain ⟨ad210, e210, hx210_0, hx210_1⟩ := at_T147 (Kd.R_reads' HO_0.out).2.2 t205 p210 q210
            cases e210
            replace p210 := eq_true p210
            replace q210 := eq_true q210
            refine start_ (n := 10) (S := fun w' => w'.cell? ⟨gb204, 0, none⟩ = some (.int .i64 a1_0) ∧ w'.cell? ⟨gb204, 1, none⟩ = some (.int .i64 a1_1) ∧ w'.cell? ⟨gb204, 2, none⟩ = some (.int .i64 a1_2) ∧ w'.cell? (ad210.add ((t205).toNat * 2)) = some (.int .i64 ((rd_T147 l0 t205).f0)) ∧ w'.cell? ⟨(ad210.add ((t205).toNat * 2)).block, (ad210.add ((t205).toNat * 2)).off + 1, none⟩ = some (.int .i64 ((rd_T147 l0 t205).f1))) (ds := []) #[false, false, false, false, false, false, false, false, false, false] (by kernel_rfl) rfl rfl ⟨(blk_cell BK204.out 0).trans rfl, (blk_cell BK204.out 1).trans rfl, (blk_cell BK204.out 2).trans rfl, hx210_0, hx210_1⟩ (fun hHeld => ?_); refine with_tabW impl_changed.tab10 impl_changed.bits10 (fun HT_ HW_ => ?_)
            generalize wc.drew = w35 at HO_0 BK204 HK HB hx210_0 hx210_1 hHeld ⊢
            refine pure_ (i := 0) (N := some 46) (v := ?_) (a' := ?_) #[true, false, false, false, false, false, false, false, false, false] rfl rfl (any_of HT_.out (by kernel_rfl)) (fun _ _ _ h => h) (Or.inl ⟨by rfl, ?_⟩) ?_ ?_
            rotate_left
            ·intro w'
             go_simp
             with_reducible rfl
            rotate_left
            ·simp only [Act.put, List.setIfInBounds_toArray, List.set_cons_zero, List.set_cons_succ, i64_w, i32_w]
             rfl
            refine pure_ (i := 1) (N := some 47) (v := ?_) (a' := ?_) #[true, true, false, false, false, false, false, false, false, false] rfl rfl (any_of HT_.out (by kernel_rfl)) (fun _ _ _ h => h) (Or.inl ⟨by rfl, ?_⟩) ?_ ?_
            rotate_left
            ·intro w'
             go_simp
             with_reducible rfl
            rotate_left
            ·simp only [Act.put, List.setIfInBounds_toArray, List.set_cons_zero, List.set_cons_succ, i64_w, i32_w]
             rfl
            refine pure_ (i := 2) (N := some 48) (v := ?_) (a' := ?_) #[true, true, true, false, false, false, false, false, false, false] rfl rfl (any_of HT_.out (by kernel_rfl)) (fun _ _ _ h => h) (Or.inl ⟨by rfl, ?_⟩) ?_ ?_
            rotate_left
            ·intro w'
             go_simp
             with_reducible rfl
            rotate_left
            ·simp only [Act.put, List.setIfInBounds_toArray, List.set_cons_zero, List.set_cons_succ, i64_w, i32_w]
             rfl
            refine pure_ (i := 3) (N := some 49) (v := ?_) (a' := ?_) #[true, true, true, true, false, false, false, false, false, false] rfl rfl (any_of HT_.out (by kernel_rfl)) (fun _ _ _ h => h) (Or.inl ⟨by rfl, ?_⟩) ?_ ?_
            rotate_left
            ·intro w'
             go_simp
             with_reducible rfl
            rotate_left
            ·simp only [Act.put, List.setIfInBounds_toArray, List.set_cons_zero, List.set_cons_succ, i64_w, i32_w]
             rfl
            refine pure_ (i := 5) (N := some 51) (v := ?_) (a' := ?_) #[true, true, true, true, false, true, false, false, false, false] rfl rfl (any_of HT_.out (by kernel_rfl)) (fun _ _ _ h => h) (Or.inl ⟨by rfl, ?_⟩) ?_ ?_
            rotate_left
            ·intro w'
             go_simp
             with_reducible rfl
            rotate_left
            ·simp only [Act.put, List.setIfInBounds_toArray, List.set_cons_zero, List.set_cons_succ, i64_w, i32_w]
             rfl
            refine take_ (i := 4) (N := some 50) (v := ?_) (a' := ?_) #[true, true, true, true, true, true, false, false, false, false] rfl rfl (take_ofW HT_.out HW_.out (by kernel_rfl)) (fun _ _ _ h => h) (Or.inl ⟨by rfl, ?_⟩) hHeld ?_ ?_
            rotate_left
            ·rintro w' ⟨s0, s1, s2, s3, s4⟩
             go_simp
             with_reducible rfl
            rotate_left
            ·simp only [Act.put, List.setIfInBounds_toArray, List.set_cons_zero, List.set_cons_succ, i64_w, i32_w]
             rfl
            refine take_ (i := 6) (N := some 52) (v := ?_) (a' := ?_) #[true, true, true, true, true, true, true, false, false, false] rfl rfl (take_ofW HT_.out HW_.out (by kernel_rfl)) (fun _ _ _ h => h) (Or.inl ⟨by rfl, ?_⟩) hHeld ?_ ?_
            rotate_left
            ·rintro w' ⟨s0, s1, s2, s3, s4⟩
             go_simp
             with_reducible rfl
            rotate_left
            ·simp only [Act.put, List.setIfInBounds_toArray, List.set_cons_zero, List.set_cons_succ, i64_w, i32_w]
             rfl
            refine pure_ (i := 7) (N := some 53) (v := ?_) (a' := ?_) #[true, true, true, true, true, true, true, true, false, false] rfl rfl (any_of HT_.out (by kernel_rfl)) (fun _ _ _ h => h) (Or.inl ⟨by rfl, ?_⟩) ?_ ?_
            rotate_left
            ·intro w'
             go_simp
             with_reducible rfl
            rotate_left
            ·simp only [Act.put, List.setIfInBounds_toArray, List.set_cons_zero, List.set_cons_succ, i64_w, i32_w]
             rfl
            refine one_ (i := 8) (N := some 54) #[true, true, true, true, true, true, true, true, true, false] rfl rfl (one_of HT_.out (by kernel_rfl)) (by decide) (fun K hK => ?_)
            refine goes_ Try.func102 (by kernel_rfl) rfl #[.int .i64 (wrap64 (((rd_T147 l0 t205).f1) + a1_2))] (by rfl) rfl rfl z1_ ?_
            with_reducible refine (impl_limited.calls (wrap64 (((rd_T147 l0 t205).f1) + a1_2)) t211 _ A32.out).mono ?_
            rintro e w36 ⟨rfl, hb⟩
            have HS3_ := (hb.cell (World.block_lt_of_cell? _ _ (hHeld.2.2.2.1))).trans (hHeld.2.2.2.1)
            have HS4_ := (hb.cell (World.block_lt_of_cell? _ _ (hHeld.2.2.2.2))).trans (hHeld.2.2.2.2)
            refine ⟨_, rfl, ?_⟩
            have n0_ := q_ (Kd.R_below z32_ hb)
            have n1_ := q_ (blk_below (g := gb204) (o := .cells #[.int .i64 a1_0, .int .i64 a1_1, .int .i64 a1_2] 67 (0, 0)) z59_ hb)
            have n2_ := q_ (Kept.below (S := (fun k_ => P0_ k_)) z30_ hb)
            have n3_ := q_ (below_step z33_ hb)
            clear HO_0
            clear BK204
            clear HK
            clear HB
            have HO_0 := n0_
            have BK204 := n1_
            have HK := n2_
            have HB := n3_
            clear n0_ n1_ n2_ n3_
            (try clear hb)
            (try clear hb2)
            (try clear hk)
            (try clear hi)
            refine hK.out _ _ ⟨(blk_cell BK204.out 0).trans rfl, (blk_cell BK204.out 1).trans rfl, (blk_cell BK204.out 2).trans rfl, HS3_, HS4_⟩ (fun hHeld => ?_)
            clear hK K
            refine norm_ (a' := ?_) ?_ ?_
            rotate_left
            ·show Act.put _ (some 54) _ = _
             simp only [Act.put, List.setIfInBounds_toArray, List.set_cons_zero, List.set_cons_succ, i64_w, i32_w]
             rfl
            refine pure_ (i := 9) (N := some 7) (v := ?_) (a' := ?_) #[true, true, true, true, true, true, true, true, true, true] rfl rfl (any_of HT_.out (by kernel_rfl)) (fun _ _ _ h => h) (Or.inl ⟨by rfl, ?_⟩) ?_ ?_
            rotate_left
            ·intro w'
             go_simp
             with_reducible rfl
            rotate_left
            ·simp only [Act.put, List.setIfInBounds_toArray, List.set_cons_zero, List.set_cons_succ, i64_w, i32_w]
             rfl
            refine done_ (done_of HT_.out (by kernel_rfl)) ?_
            have p34 : 0 ≤ (t205 : Int) := of_decide_eq_true z3_
            have q34 : (t205 : Int) < ((l0.length : Int) : Int) := of_decide_eq_true z3_
            obtain ⟨go34, co34, eo34, gb34, gl34, cl34, HG34⟩ := Kd.R_form HO_0.out (by omega)
            (first | cases eo34 | (injection eo34 with ea_ en_ ec_; (first | subst ea_ | (injection ea_ with ea_; subst ea_)); subst ec_; clear en_))
            have GB34 := q_ gb34
            have GG34 := q_ HG34
            clear gb34 gl34 HG34
            have HMgo34 := q_ (show (P0_ go34 ∨ w.heap.size ≤ go34) from (HO_0.out.1 _ rfl))
            (first | simp only [add_plain] at hx210_0 | skip)
            (first | simp only [add_plain] at hx210_1 | skip)
            obtain ⟨ce34, hcl34, hM34, hcc34, hfr34⟩ := Kd.R_elem HO_0.out z147 (t205 : Int) p34 q34
            obtain rfl := k147_openM hM34
            have hx34_0 : w36.cell? ⟨go34, (t205 : Int).toNat * 2, none⟩ = some (.int .i64 ((rd_T147 l0 t205).f0)) := hcc34 0 _ rfl
            have hx34_1 : w36.cell? ⟨go34, (t205 : Int).toNat * 2 + 1, none⟩ = some (.int .i64 ((rd_T147 l0 t205).f1)) := hcc34 1 _ rfl
            have hf34_0 : w36.frozen? ⟨go34, (t205 : Int).toNat * 2, none⟩ = false := hfr34 0
            have hf34_1 : w36.frozen? ⟨go34, (t205 : Int).toNat * 2 + 1, none⟩ = false := hfr34 1
            clear hcl34 hcc34 hfr34 hM34
            replace p34 := eq_true p34
            replace q34 := eq_true q34
            have HX37 := q_ (show Kd.R k147 147 w36 w0.heap.size (fun k_ => (P0_ k_ ∨ w.heap.size ≤ k_)) (.slice (some ⟨go34, 0, none⟩) l0.length co13) l0 from z32_)
            obtain ⟨ce37, hcl37, hM37, hcc37, hfr37⟩ := Kd.R_elem HX37.out z147 (t205 : Int) (of_decide_eq_true z3_) z122_
            obtain rfl := k147_openM hM37
            have HP37 := Kd.R_seg HX37.out (t205 : Int) (of_decide_eq_true z3_) z122_ (seg := [.int .i64 t211]) (j := 1) hcl37 hcc37 (show 2 ≤ 2 from by decide) (x' := (⟨(rd_T147 l0 t205).f0, t211⟩ : S147)) (k147_mkM _ _ _ (⟨(rd_T147 l0 t205).f0, t211⟩ : S147) ) (fun _ hk => hk)
            have hx37_1 := hcc37 1 _ rfl
            (try simp only [show (k147).sz = 2 from rfl, Nat.mul_one, Nat.add_zero] at hx37_1)
            have hf37_1 := hfr37 1
            (try simp only [show (k147).sz = 2 from rfl, Nat.mul_one, Nat.add_zero] at hf37_1)
            clear hcl37 hcc37 hfr37 hM37
            try go_wp2_with (first | ((with_reducible refine gate_store (t := 3) (p := 60) rfl ?_); refine store_event (t := 3) (p := 60) (v := ?vo_w38) (w1 := (w36.setCell ⟨go34, (t205 : Int).toNat * 2 + 1, none⟩ (.int .i64 t211))) ?hg ?ho ?hn ?hr ?_; (case ho => rfl); (case hg => rfl); (case hn => rfl); (case hr => exact z148_); intro w38 hw; have hg : w36.grownBy w38 (some go34) := (by rw [hw]; exact HP37.2); have hp_ : Kd.R k147 147 w38 w0.heap.size (fun k_ => (P0_ k_ ∨ w.heap.size ≤ k_)) (.slice (some ⟨go34, 0, none⟩) l0.length co13) y212 := (by rw [hw, Ny212.out]; exact HP37.1); clear HP37; have n0_ := q_ (hp_); have n1_ := q_ ((by rw [hw]; exact below_set (HB.out) GB34.out : Below w0.heap.size w0 w38)); have n2_ := q_ (Kept.of_grown (S := (fun k_ => P0_ k_)) hg z9_ (fun k_ e_ => (HO_0.out.1 k_ e_))); clear HO_0; clear HB; clear HK; have HO_0 := n0_; have HB := n1_; have HK := n2_; clear n0_ n1_ n2_; clear hg hw hp_))
            go_ret
            exact ⟨_, z5_, z32_, z0_, z9_⟩
           ·replace c33 := Bool.eq_false_iff.mpr c33
            subst c33
            have H1 : ((slices_Insert_Pair.f l0 t205 (([(⟨a1_1, t211⟩ : S147)] : List (S147)))).bind fun t216 => (some t216)) = some r := by rw [if_neg (show ¬ (false = true) by decide)] at H; exact H
            clear H
            have H := H1
            clear H1
            obtain ⟨y213, hy213⟩ : ∃ y_ : List (S147), y_ = (([(⟨a1_1, t211⟩ : S147)] : List (S147))) := ⟨_, rfl⟩
            replace H : ((slices_Insert_Pair.f l0 t205 y213).bind fun t216 => (some t216)) = some r := by first | (rw [hy213]; with_reducible exact H) | (have H2_ := (Option.bind_some _ _).symm.trans H; rw [hy213]; with_reducible exact H2_) | (have H2_ := (Option.bind_some _ _).symm.trans H; with_reducible exact H2_) | with_reducible exact H | (rw [hy213]; exact H) | exact H
            have Ny213 := q_ hy213
            clear hy213
            replace H := Option.bind_eq_some_iff.mp H
            obtain ⟨t216, A390, H⟩ := H
            replace H : (some t216) = some r := H
            have A39 := q_ A390
            clear A390
            obtain rfl := Option.some.inj H
            try go_wp2
            have n0_ := q_ (Kd.R_drew HO_0.out)
            have n1_ := q_ (blk_drew BK204.out)
            have n2_ := q_ (Kept.drew HK.out)
            have n3_ := q_ (below_drew1 HB.out)
            clear HO_0
            clear BK204
            clear HK
            clear HB
            have HO_0 := n0_
            have BK204 := n1_
            have HK := n2_
            have HB := n3_
            clear n0_ n1_ n2_ n3_
            have p210 : 0 ≤ (t205 : Int) := of_decide_eq_true z3_
            have q210 : t205 < (l0.length : Int) := of_decide_eq_true z3_
            obtain ⟨ad210, e210, hx210_0, hx210_1⟩ := at_T147 (Kd.R_reads' HO_0.out).2.2 t205 p210 q210
            cases e210
            replace p210 := eq_true p210
            replace q210 := eq_true q210
            refine start_ (n := 10) (S := fun w' => w'.cell? ⟨gb204, 0, none⟩ = some (.int .i64 a1_0) ∧ w'.cell? ⟨gb204, 1, none⟩ = some (.int .i64 a1_1) ∧ w'.cell? ⟨gb204, 2, none⟩ = some (.int .i64 a1_2) ∧ w'.cell? (ad210.add ((t205).toNat * 2)) = some (.int .i64 ((rd_T147 l0 t205).f0)) ∧ w'.cell? ⟨(ad210.add ((t205).toNat * 2)).block, (ad210.add ((t205).toNat * 2)).off + 1, none⟩ = some (.int .i64 ((rd_T147 l0 t205).f1))) (ds := []) #[false, false, false, false, false, false, false, false, false, false] (by kernel_rfl) rfl rfl ⟨(blk_cell BK204.out 0).trans rfl, (blk_cell BK204.out 1).trans rfl, (blk_cell BK204.out 2).trans rfl, hx210_0, hx210_1⟩ (fun hHeld => ?_); refine with_tabW impl_changed.tab10 impl_changed.bits10 (fun HT_ HW_ => ?_)
            generalize wc.drew = w40 at HO_0 BK204 HK HB hx210_0 hx210_1 hHeld ⊢
            refine pure_ (i := 0) (N := some 46) (v := ?_) (a' := ?_) #[true, false, false, false, false, false, false, false, false, false] rfl rfl (any_of HT_.out (by kernel_rfl)) (fun _ _ _ h => h) (Or.inl ⟨by rfl, ?_⟩) ?_ ?_
            rotate_left
            ·intro w'
             go_simp
             with_reducible rfl
            rotate_left
            ·simp only [Act.put, List.setIfInBounds_toArray, List.set_cons_zero, List.set_cons_succ, i64_w, i32_w]
             rfl
            refine pure_ (i := 1) (N := some 47) (v := ?_) (a' := ?_) #[true, true, false, false, false, false, false, false, false, false] rfl rfl (any_of HT_.out (by kernel_rfl)) (fun _ _ _ h => h) (Or.inl ⟨by rfl, ?_⟩) ?_ ?_
            rotate_left
            ·intro w'
             go_simp
             with_reducible rfl
            rotate_left
            ·simp only [Act.put, List.setIfInBounds_toArray, List.set_cons_zero, List.set_cons_succ, i64_w, i32_w]
             rfl
            refine pure_ (i := 2) (N := some 48) (v := ?_) (a' := ?_) #[true, true, true, false, false, false, false, false, false, false] rfl rfl (any_of HT_.out (by kernel_rfl)) (fun _ _ _ h => h) (Or.inl ⟨by rfl, ?_⟩) ?_ ?_
            rotate_left
            ·intro w'
             go_simp
             with_reducible rfl
            rotate_left
            ·simp only [Act.put, List.setIfInBounds_toArray, List.set_cons_zero, List.set_cons_succ, i64_w, i32_w]
             rfl
            refine pure_ (i := 3) (N := some 49) (v := ?_) (a' := ?_) #[true, true, true, true, false, false, false, false, false, false] rfl rfl (any_of HT_.out (by kernel_rfl)) (fun _ _ _ h => h) (Or.inl ⟨by rfl, ?_⟩) ?_ ?_
            rotate_left
            ·intro w'
             go_simp
             with_reducible rfl
            rotate_left
            ·simp only [Act.put, List.setIfInBounds_toArray, List.set_cons_zero, List.set_cons_succ, i64_w, i32_w]
             rfl
            refine pure_ (i := 5) (N := some 51) (v := ?_) (a' := ?_) #[true, true, true, true, false, true, false, false, false, false] rfl rfl (any_of HT_.out (by kernel_rfl)) (fun _ _ _ h => h) (Or.inl ⟨by rfl, ?_⟩) ?_ ?_
            rotate_left
            ·intro w'
             go_simp
             with_reducible rfl
            rotate_left
            ·simp only [Act.put, List.setIfInBounds_toArray, List.set_cons_zero, List.set_cons_succ, i64_w, i32_w]
             rfl
            refine take_ (i := 4) (N := some 50) (v := ?_) (a' := ?_) #[true, true, true, true, true, true, false, false, false, false] rfl rfl (take_ofW HT_.out HW_.out (by kernel_rfl)) (fun _ _ _ h => h) (Or.inl ⟨by rfl, ?_⟩) hHeld ?_ ?_
            rotate_left
            ·rintro w' ⟨s0, s1, s2, s3, s4⟩
             go_simp
             with_reducible rfl
            rotate_left
            ·simp only [Act.put, List.setIfInBounds_toArray, List.set_cons_zero, List.set_cons_succ, i64_w, i32_w]
             rfl
            refine take_ (i := 6) (N := some 52) (v := ?_) (a' := ?_) #[true, true, true, true, true, true, true, false, false, false] rfl rfl (take_ofW HT_.out HW_.out (by kernel_rfl)) (fun _ _ _ h => h) (Or.inl ⟨by rfl, ?_⟩) hHeld ?_ ?_
            rotate_left
            ·rintro w' ⟨s0, s1, s2, s3, s4⟩
             go_simp
             with_reducible rfl
            rotate_left
            ·simp only [Act.put, List.setIfInBounds_toArray, List.set_cons_zero, List.set_cons_succ, i64_w, i32_w]
             rfl
            refine pure_ (i := 7) (N := some 53) (v := ?_) (a' := ?_) #[true, true, true, true, true, true, true, true, false, false] rfl rfl (any_of HT_.out (by kernel_rfl)) (fun _ _ _ h => h) (Or.inl ⟨by rfl, ?_⟩) ?_ ?_
            rotate_left
            ·intro w'
             go_simp
             with_reducible rfl
            rotate_left
            ·simp only [Act.put, List.setIfInBounds_toArray, List.set_cons_zero, List.set_cons_succ, i64_w, i32_w]
             rfl
            refine one_ (i := 8) (N := some 54) #[true, true, true, true, true, true, true, true, true, false] rfl rfl (one_of HT_.out (by kernel_rfl)) (by decide) (fun K hK => ?_)
            refine goes_ Try.func102 (by kernel_rfl) rfl #[.int .i64 (wrap64 (((rd_T147 l0 t205).f1) + a1_2))] (by rfl) rfl rfl z1_ ?_
            with_reducible refine (impl_limited.calls (wrap64 (((rd_T147 l0 t205).f1) + a1_2)) t211 _ A32.out).mono ?_
            rintro e w41 ⟨rfl, hb⟩
            have HS3_ := (hb.cell (World.block_lt_of_cell? _ _ (hHeld.2.2.2.1))).trans (hHeld.2.2.2.1)
            have HS4_ := (hb.cell (World.block_lt_of_cell? _ _ (hHeld.2.2.2.2))).trans (hHeld.2.2.2.2)
            refine ⟨_, rfl, ?_⟩
            have n0_ := q_ (Kd.R_below z32_ hb)
            have n1_ := q_ (blk_below (g := gb204) (o := .cells #[.int .i64 a1_0, .int .i64 a1_1, .int .i64 a1_2] 67 (0, 0)) z59_ hb)
            have n2_ := q_ (Kept.below (S := (fun k_ => P0_ k_)) z30_ hb)
            have n3_ := q_ (below_step z33_ hb)
            clear HO_0
            clear BK204
            clear HK
            clear HB
            have HO_0 := n0_
            have BK204 := n1_
            have HK := n2_
            have HB := n3_
            clear n0_ n1_ n2_ n3_
            (try clear hb)
            (try clear hb2)
            (try clear hk)
            (try clear hi)
            refine hK.out _ _ ⟨(blk_cell BK204.out 0).trans rfl, (blk_cell BK204.out 1).trans rfl, (blk_cell BK204.out 2).trans rfl, HS3_, HS4_⟩ (fun hHeld => ?_)
            clear hK K
            refine norm_ (a' := ?_) ?_ ?_
            rotate_left
            ·show Act.put _ (some 54) _ = _
             simp only [Act.put, List.setIfInBounds_toArray, List.set_cons_zero, List.set_cons_succ, i64_w, i32_w]
             rfl
            refine pure_ (i := 9) (N := some 7) (v := ?_) (a' := ?_) #[true, true, true, true, true, true, true, true, true, true] rfl rfl (any_of HT_.out (by kernel_rfl)) (fun _ _ _ h => h) (Or.inl ⟨by rfl, ?_⟩) ?_ ?_
            rotate_left
            ·intro w'
             go_simp
             with_reducible rfl
            rotate_left
            ·simp only [Act.put, List.setIfInBounds_toArray, List.set_cons_zero, List.set_cons_succ, i64_w, i32_w]
             rfl
            refine done_ (done_of HT_.out (by kernel_rfl)) ?_
            obtain ⟨hcz42_0, hcz42_1, hcz42_2, hfz42_0, hfz42_1, hfz42_2⟩ := cs3_ BK204.out
            try go_wp2_with (first | ((with_reducible refine gate_dst (N := 68) rfl ?_); refine Kd.R_lit k147 _ 147 ?hg (N := 68) ?hd (xs := ([(⟨a1_1, t211⟩ : S147)] : List (S147))) (inner := [.int .i64 a1_1, .int .i64 t211]) (ok := fun _ => True) (okp := fun _ => True) ?hr ?hp (fun _ hk => hk) trivial (Below.refl _ _) (Nat.le_refl _) (by simp) ?_; (case hd => rfl); (case hg => rfl); (case hr => exact z148_); (case hp => exact (Reps.c2 (show Kd.M k147 _ _ _ (⟨a1_1, t211⟩ : S147) [.int .i64 a1_1, .int .i64 t211] from (k147_mkM _ _ _ (⟨a1_1, t211⟩ : S147) )) (Reps.none _ _))); intro v214 w43 ho44 hb hg_ hnew_; clear hg_ hnew_; (first | rw [← Ny213.out] at ho44 | (simp only [Int.reduceToNat] at ho44; rw [← Ny213.out] at ho44)); have n0_ := q_ (Kd.R_elder' z32_ (Kd.R_base ho44) hb); have n1_ := q_ (Kd.R_lower (Kd.R_new' (Kd.R_newM (M := fun k_ => (P0_ k_ ∨ w.heap.size ≤ k_)) ho44 z121_ (fun k_ h_ => .inr h_)) (Kd.R_lt z32_)) (below_size z0_)); have n2_ := q_ (Kept.below (S := (fun k_ => P0_ k_)) z9_ hb); have n3_ := q_ (below_step z0_ hb); clear HO_0; clear HK; clear HB; have HO_0 := n0_; have HO215 := n1_; have HK := n2_; have HB := n3_; clear n0_ n1_ n2_ n3_; clear hb ho44; obtain ⟨Ao45, co45, eo45⟩ := Kd.R_slice HO215.out; subst eo45) | ((with_reducible refine gate_callee (f := 173) rfl ?_); refine goesL_ (some 69) rfl rfl Try.func173 (by kernel_rfl) rfl #[.slice (some ad210) l0.length co13, .int .i64 t205, .slice Ao45 y213.length co45] rfl z1_ ?_; (with_reducible refine (slices_Insert_Pair.calls (fun k_ => some k_ = (.slice (some ad210) l0.length co13 : Value).ownBlock) (.slice (some ad210) l0.length co13) l0 t205 _ _ y213 t216 w0 _ ?side1 ?side2 ?side3 ?side4 A39.out).mono ?_); (case side1 => exact z159_); (case side2 => exact Kd.R_tight rfl HO_0.out); (case side3 => exact Kd.C_kept_own (HO215.out) (fun k_ hk_ hs_ => (hk_.2) hs_)); (case side4 => exact (Kd.R_reads' HO215.out).2.1); rintro e w46 ⟨v217, rfl, ho0, hb, hkp⟩; refine ⟨_, rfl, ?_⟩; have n0_ := q_ (Kd.R_mono (ok' := fun k_ => (P0_ k_ ∨ w.heap.size ≤ k_) ∧ some k_ ≠ (v217 : Value).ownBlock) (Kd.R_keptB (HO215.out) hkp (fun k_ hk_ hs_ => (hk_.2) hs_)) (fun k_ hk_ => ⟨hk_.1.1.1, fun e_ => Or.elim (ho0.1 k_ e_.symm) (fun hs_ => hk_.2.1 hs_) (fun hn_ => Nat.not_le.2 hk_.2.2 hn_)⟩)); have n1_ := q_ (Kd.R_mono (ok' := fun k_ => (P0_ k_ ∨ w.heap.size ≤ k_) ∧ some k_ ≠ (.slice Ao45 y213.length co45 : Value).ownBlock) ho0 (fun k_ hk_ => ⟨Or.elim hk_ (fun hs_ => (HO_0.out.1 k_ (hs_).symm).1) (fun hn_ => (.inr (Nat.le_trans z121_ hn_))), Or.elim hk_ (fun hs_ => fun e_ => (((HO215.out).1 k_ e_.symm).2) hs_) (fun hn_ => (Kd.fresh' (Kd.R_lt (by (with_reducible repeat (first | apply Kd.R_alloc | apply Kd.R_drewN | apply Kd.R_drew)); exact HO215.out)) k_ hn_))⟩)); have n2_ := q_ (Kept.then_ (S := (fun k_ => P0_ k_)) z9_ hkp (fun k_ hs_ => (fun e_ => (HO_0.out.1 k_ e_.symm).1) hs_)); have n3_ := q_ (hb); clear HO215; clear HK; clear HB; clear HO_0; have HO215 := n0_; have HO218 := n1_; have HK := n2_; have HB := n3_; clear n0_ n1_ n2_ n3_; (try clear hb); (try clear hkp); (try clear ho0)))
            go_ret
            exact ⟨_, z5_, by (with_reducible repeat (first | apply Kd.R_alloc | apply Kd.R_drewN | apply Kd.R_drew)); exact Kd.R_mono HO218.out (fun _ hk => hk.1), z0_, z9_⟩
          ·rw [if_neg c31] at H
           exact absurd H (by simp)
         ·rw [if_neg c30] at H
          exact absurd H (by simp)
        ·replace c29 := Bool.eq_false_iff.mpr c29
         subst c29
         have H1 : (if t206 = true then (if 0 ≤ t205 then (if t205 < (l0.length : Int) then (some (l0.set (t205 : Int).toNat (⟨(rd_T147 l0 t205).f0, a1_2⟩ : S147))) else (none)) else (none)) else ((slices_Insert_Pair.f l0 t205 (([(⟨a1_1, a1_2⟩ : S147)] : List (S147)))).bind fun t223 => (some t223))) = some r := by rw [if_neg (show ¬ (false = true) by decide)] at H; exact H
         clear H
         have H := H1
         clear H1
         by_cases c47 : t206 = true
         ·subst c47
          have H1 : (if 0 ≤ t205 then (if t205 < (l0.length : Int) then (some (l0.set (t205 : Int).toNat (⟨(rd_T147 l0 t205).f0, a1_2⟩ : S147))) else (none)) else (none)) = some r := z58_
          clear H
          have H := H1
          clear H1
          by_cases c48 : 0 ≤ t205
          ·rw [if_pos c48] at H
           have c48b0 : decide (0 ≤ t205) = true := decide_eq_true c48
           clear c48
           by_cases c49 : t205 < (l0.length : Int)
           ·rw [if_pos c49] at H
            have c49b0 : decide (t205 < (l0.length : Int)) = true := decide_eq_true c49
            clear c49
            obtain ⟨y219, hy219⟩ : ∃ y_ : List (S147), y_ = (l0.set (t205 : Int).toNat (⟨(rd_T147 l0 t205).f0, a1_2⟩ : S147)) := ⟨_, rfl⟩
            replace H : (some y219) = some r := by first | (rw [hy219]; with_reducible exact H) | (have H2_ := (Option.bind_some _ _).symm.trans H; rw [hy219]; with_reducible exact H2_) | (have H2_ := (Option.bind_some _ _).symm.trans H; with_reducible exact H2_) | with_reducible exact H | (rw [hy219]; exact H) | exact H
            have Ny219 := q_ hy219
            clear hy219
            obtain rfl := Option.some.inj H
            have p50 : 0 ≤ (t205 : Int) := of_decide_eq_true z3_
            have q50 : (t205 : Int) < ((l0.length : Int) : Int) := of_decide_eq_true z3_
            obtain ⟨go50, co50, eo50, gb50, gl50, cl50, HG50⟩ := Kd.R_form HO_0.out (by omega)
            (first | cases eo50 | (injection eo50 with ea_ en_ ec_; (first | subst ea_ | (injection ea_ with ea_; subst ea_)); subst ec_; clear en_))
            have GB50 := q_ gb50
            have GG50 := q_ HG50
            clear gb50 gl50 HG50
            have HMgo50 := q_ (show (P0_ go50 ∨ w.heap.size ≤ go50) from (HO_0.out.1 _ rfl))
            obtain ⟨ce50, hcl50, hM50, hcc50, hfr50⟩ := Kd.R_elem HO_0.out z147 (t205 : Int) p50 q50
            obtain rfl := k147_openM hM50
            have hx50_0 : wc.cell? ⟨go50, (t205 : Int).toNat * 2, none⟩ = some (.int .i64 ((rd_T147 l0 t205).f0)) := hcc50 0 _ rfl
            have hx50_1 : wc.cell? ⟨go50, (t205 : Int).toNat * 2 + 1, none⟩ = some (.int .i64 ((rd_T147 l0 t205).f1)) := hcc50 1 _ rfl
            have hf50_0 : wc.frozen? ⟨go50, (t205 : Int).toNat * 2, none⟩ = false := hfr50 0
            have hf50_1 : wc.frozen? ⟨go50, (t205 : Int).toNat * 2 + 1, none⟩ = false := hfr50 1
            clear hcl50 hcc50 hfr50 hM50
            replace p50 := eq_true p50
            replace q50 := eq_true q50
            have HX51 := q_ (show Kd.R k147 147 wc w0.heap.size (fun k_ => (P0_ k_ ∨ w.heap.size ≤ k_)) (.slice (some ⟨go50, 0, none⟩) l0.length co13) l0 from z32_)
            obtain ⟨ce51, hcl51, hM51, hcc51, hfr51⟩ := Kd.R_elem HX51.out z147 (t205 : Int) (of_decide_eq_true z3_) z122_
            obtain rfl := k147_openM hM51
            have HP51 := Kd.R_seg HX51.out (t205 : Int) (of_decide_eq_true z3_) z122_ (seg := [.int .i64 a1_2]) (j := 1) hcl51 hcc51 (show 2 ≤ 2 from by decide) (x' := (⟨(rd_T147 l0 t205).f0, a1_2⟩ : S147)) (k147_mkM _ _ _ (⟨(rd_T147 l0 t205).f0, a1_2⟩ : S147) ) (fun _ hk => hk)
            have hx51_1 := hcc51 1 _ rfl
            (try simp only [show (k147).sz = 2 from rfl, Nat.mul_one, Nat.add_zero] at hx51_1)
            have hf51_1 := hfr51 1
            (try simp only [show (k147).sz = 2 from rfl, Nat.mul_one, Nat.add_zero] at hf51_1)
            clear hcl51 hcc51 hfr51 hM51
            go_wp2_with (first | ((with_reducible refine gate_store (t := 3) (p := 60) rfl ?_); refine store_event (t := 3) (p := 60) (v := ?vo_w52) (w1 := (wc.setCell ⟨go50, (t205 : Int).toNat * 2 + 1, none⟩ (.int .i64 a1_2))) ?hg ?ho ?hn ?hr ?_; (case ho => rfl); (case hg => rfl); (case hn => rfl); (case hr => exact z148_); intro w52 hw; have hg : wc.grownBy w52 (some go50) := (by rw [hw]; exact HP51.2); have hp_ : Kd.R k147 147 w52 w0.heap.size (fun k_ => (P0_ k_ ∨ w.heap.size ≤ k_)) (.slice (some ⟨go50, 0, none⟩) l0.length co13) y219 := (by rw [hw, Ny219.out]; exact HP51.1); clear HP51; have n0_ := q_ (hp_); have n1_ := q_ ((by rw [hw]; exact below_set (HB.out) GB50.out : Below w0.heap.size w0 w52)); have n2_ := q_ (Kept.of_grown (S := (fun k_ => P0_ k_)) hg z9_ (fun k_ e_ => (HO_0.out.1 k_ e_))); clear HO_0; clear HB; clear HK; have HO_0 := n0_; have HB := n1_; have HK := n2_; clear n0_ n1_ n2_; clear hg hw hp_))
            go_ret
            exact ⟨_, z5_, z32_, z0_, z9_⟩
           ·rw [if_neg c49] at H
            exact absurd H (by simp)
          ·rw [if_neg c48] at H
           exact absurd H (by simp)
         ·replace c47 := Bool.eq_false_iff.mpr c47
          subst c47
          have H1 : ((slices_Insert_Pair.f l0 t205 (([(⟨a1_1, a1_2⟩ : S147)] : List (S147)))).bind fun t223 => (some t223)) = some r := by rw [if_neg (show ¬ (false = true) by decide)] at H; exact H
          clear H
          have H := H1
          clear H1
          obtain ⟨y220, hy220⟩ : ∃ y_ : List (S147), y_ = (([(⟨a1_1, a1_2⟩ : S147)] : List (S147))) := ⟨_, rfl⟩
          replace H : ((slices_Insert_Pair.f l0 t205 y220).bind fun t223 => (some t223)) = some r := by first | (rw [hy220]; with_reducible exact H) | (have H2_ := (Option.bind_some _ _).symm.trans H; rw [hy220]; with_reducible exact H2_) | (have H2_ := (Option.bind_some _ _).symm.trans H; with_reducible exact H2_) | with_reducible exact H | (rw [hy220]; exact H) | exact H
          have Ny220 := q_ hy220
          clear hy220
          replace H := Option.bind_eq_some_iff.mp H
          obtain ⟨t223, A530, H⟩ := H
          replace H : (some t223) = some r := H
          have A53 := q_ A530
          clear A530
          obtain rfl := Option.some.inj H
          obtain ⟨hcz54_0, hcz54_1, hcz54_2, hfz54_0, hfz54_1, hfz54_2⟩ := cs3_ BK204.out
          go_wp2_with (first | ((with_reducible refine gate_dst (N := 68) rfl ?_); refine Kd.R_lit k147 _ 147 ?hg (N := 68) ?hd (xs := ([(⟨a1_1, a1_2⟩ : S147)] : List (S147))) (inner := [.int .i64 a1_1, .int .i64 a1_2]) (ok := fun _ => True) (okp := fun _ => True) ?hr ?hp (fun _ hk => hk) trivial (Below.refl _ _) (Nat.le_refl _) (by simp) ?_; (case hd => rfl); (case hg => rfl); (case hr => exact z148_); (case hp => exact (Reps.c2 (show Kd.M k147 _ _ _ (⟨a1_1, a1_2⟩ : S147) [.int .i64 a1_1, .int .i64 a1_2] from (k147_mkM _ _ _ (⟨a1_1, a1_2⟩ : S147) )) (Reps.none _ _))); intro v221 w55 ho56 hb hg_ hnew_; clear hg_ hnew_; (first | rw [← Ny220.out] at ho56 | (simp only [Int.reduceToNat] at ho56; rw [← Ny220.out] at ho56)); have n0_ := q_ (Kd.R_elder' z32_ (Kd.R_base ho56) hb); have n1_ := q_ (Kd.R_lower (Kd.R_new' (Kd.R_newM (M := fun k_ => (P0_ k_ ∨ w.heap.size ≤ k_)) ho56 z121_ (fun k_ h_ => .inr h_)) (Kd.R_lt z32_)) (below_size z0_)); have n2_ := q_ (Kept.below (S := (fun k_ => P0_ k_)) z9_ hb); have n3_ := q_ (below_step z0_ hb); clear HO_0; clear HK; clear HB; have HO_0 := n0_; have HO222 := n1_; have HK := n2_; have HB := n3_; clear n0_ n1_ n2_ n3_; clear hb ho56; obtain ⟨Ao57, co57, eo57⟩ := Kd.R_slice HO222.out; subst eo57) | ((with_reducible refine gate_callee (f := 173) rfl ?_); refine goesL_ (some 69) rfl rfl Try.func173 (by kernel_rfl) rfl #[.slice Ao13 l0.length co13, .int .i64 t205, .slice Ao57 y220.length co57] rfl z1_ ?_; (with_reducible refine (slices_Insert_Pair.calls (fun k_ => some k_ = (.slice Ao13 l0.length co13 : Value).ownBlock) (.slice Ao13 l0.length co13) l0 t205 _ _ y220 t223 w0 _ ?side1 ?side2 ?side3 ?side4 A53.out).mono ?_); (case side1 => exact z159_); (case side2 => exact Kd.R_tight rfl HO_0.out); (case side3 => exact Kd.C_kept_own (HO222.out) (fun k_ hk_ hs_ => (hk_.2) hs_)); (case side4 => exact (Kd.R_reads' HO222.out).2.1); rintro e w58 ⟨v224, rfl, ho0, hb, hkp⟩; refine ⟨_, rfl, ?_⟩; have n0_ := q_ (Kd.R_mono (ok' := fun k_ => (P0_ k_ ∨ w.heap.size ≤ k_) ∧ some k_ ≠ (v224 : Value).ownBlock) (Kd.R_keptB (HO222.out) hkp (fun k_ hk_ hs_ => (hk_.2) hs_)) (fun k_ hk_ => ⟨hk_.1.1.1, fun e_ => Or.elim (ho0.1 k_ e_.symm) (fun hs_ => hk_.2.1 hs_) (fun hn_ => Nat.not_le.2 hk_.2.2 hn_)⟩)); have n1_ := q_ (Kd.R_mono (ok' := fun k_ => (P0_ k_ ∨ w.heap.size ≤ k_) ∧ some k_ ≠ (.slice Ao57 y220.length co57 : Value).ownBlock) ho0 (fun k_ hk_ => ⟨Or.elim hk_ (fun hs_ => (HO_0.out.1 k_ (hs_).symm).1) (fun hn_ => (.inr (Nat.le_trans z121_ hn_))), Or.elim hk_ (fun hs_ => fun e_ => (((HO222.out).1 k_ e_.symm).2) hs_) (fun hn_ => (Kd.fresh' (Kd.R_lt (by (with_reducible repeat (first | apply Kd.R_alloc | apply Kd.R_drewN | apply Kd.R_drew)); exact HO222.out)) k_ hn_))⟩)); have n2_ := q_ (Kept.then_ (S := (fun k_ => P0_ k_)) z9_ hkp (fun k_ hs_ => (fun e_ => (HO_0.out.1 k_ e_.symm).1) hs_)); have n3_ := q_ (hb); clear HO222; clear HK; clear HB; clear HO_0; have HO222 := n0_; have HO225 := n1_; have HK := n2_; have HB := n3_; clear n0_ n1_ n2_ n3_; (try clear hb); (try clear hkp); (try clear ho0)))
          go_ret
          exact ⟨_, z5_, by (with_reducible repeat (first | apply Kd.R_alloc | apply Kd.R_drewN | apply Kd.R_drew)); exact Kd.R_mono HO225.out (fun _ hk => hk.1), z0_, z9_⟩

end Go.Proofs.Ytphlmbhjeoljoaa.PFnShrunk
