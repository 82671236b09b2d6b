-- Written by a program of this session, which goes by the kit's print. Not trusted: Lean checks it.
import Derived.Test.YtfnndcpaldkkoaaPFnExactTreeGetx0
namespace Go.Proofs.Ytfnndcpaldkkoaa.PFnExactTreeGet
open Go.RowKit Go.Proofs.YtfnndcpaldkkoaaW.PrintWords Go.Proofs.YtfnndcpaldkkoaaW.PrintLast Go.Proofs.YtfnndcpaldkkoaaW.PrintMore
attribute [local go_sem] max2_int min2_int max_two min_two max_three min_three max_four min_four   -- for this text's walks alone
set_option linter.unusedVariables false
set_option linter.unusedSimpArgs false

/-! ### spec_l1Put: function 129 -/
mutual
def spec_l1Put.l0 : Nat → List (S92) → Int → Int → List (S92) → Bool → Int → Option ((List (S92)))
 | 0, _, _, _, _, _, _ => none
 | k + 1, x0, x1, x2, x7, x8, x9 => if x9 < (x0.length : Int) then (if x8 = true then (spec_l1Put.j1 k x0 x1 x2 x7 x8 x9 false) else (if 0 ≤ x9 then (spec_l1Put.j1 k x0 x1 x2 x7 x8 x9 (decide (((rd_T92 x0 x9).f0) ≥ x1))) else (none))) else (if x8 = true then (some x7) else (if x7.length < 8796093022208 then (some (x7 ++ [(⟨x1, x2⟩ : S92)])) else (none)))
def spec_l1Put.j1 : Nat → List (S92) → Int → Int → List (S92) → Bool → Int → Bool → Option ((List (S92)))
 | 0, _, _, _, _, _, _, _ => none
 | k + 1, x0, x1, x2, x7, x8, x9, x27 => if x27 = true then (if x7.length < 8796093022208 then ((some (x7 ++ [(⟨x1, x2⟩ : S92)] : List (S92))).bind fun y249 => (if 0 ≤ x9 then (if x9 < (x0.length : Int) then (if ((rd_T92 x0 x9).f0) = x1 then (spec_l1Put.l0 k x0 x1 x2 y249 true (wrap64 (x9 + 1))) else (if y249.length < 8796093022208 then (spec_l1Put.l0 k x0 x1 x2 (y249 ++ [(⟨(rd_T92 x0 x9).f0, (rd_T92 x0 x9).f1⟩ : S92)]) true (wrap64 (x9 + 1))) else (none))) else (none)) else (none))) else (none)) else (if 0 ≤ x9 then (if x9 < (x0.length : Int) then (if ((rd_T92 x0 x9).f0) = x1 then (spec_l1Put.l0 k x0 x1 x2 x7 x8 (wrap64 (x9 + 1))) else (if x7.length < 8796093022208 then (spec_l1Put.l0 k x0 x1 x2 (x7 ++ [(⟨(rd_T92 x0 x9).f0, (rd_T92 x0 x9).f1⟩ : S92)]) x8 (wrap64 (x9 + 1))) else (none))) else (none)) else (none))
end
def spec_l1Put.f (k : Nat) (l0 : List (S92)) (a1 : Int) (a2 : Int) : Option ((List (S92))) := spec_l1Put.l0 k l0 a1 a2 (([] : List (S92))) false 0
theorem spec_l1Put.mono_l : ∀ k, (∀ y0 y1 y2 y3 y4 y5, LeO (spec_l1Put.l0 k y0 y1 y2 y3 y4 y5) (spec_l1Put.l0 (k + 1) y0 y1 y2 y3 y4 y5)) ∧ (∀ y0 y1 y2 y3 y4 y5 y6, LeO (spec_l1Put.j1 k y0 y1 y2 y3 y4 y5 y6) (spec_l1Put.j1 (k + 1) y0 y1 y2 y3 y4 y5 y6))
 | 0 => ⟨fun _ _ _ _ _ _ r h => by simp [spec_l1Put.l0] at h, fun _ _ _ _ _ _ _ r h => by simp [spec_l1Put.j1] at h⟩
 | k + 1 => by
  obtain ⟨ih0, ih1⟩ := spec_l1Put.mono_l k
  refine ⟨?_, ?_⟩
  ·intro y0 y1 y2 y3 y4 y5
   unfold spec_l1Put.l0
   exact zm_
  ·intro y0 y1 y2 y3 y4 y5 y6
   unfold spec_l1Put.j1
   exact zm_
theorem spec_l1Put.mono : ∀ a0 a1 a2 k, LeO (spec_l1Put.f k a0 a1 a2) (spec_l1Put.f (k + 1) a0 a1 a2) := by
 intro a0 a1 a2 k
 obtain ⟨ih0, ih1⟩ := spec_l1Put.mono_l k
 unfold spec_l1Put.f
 exact zm_
set_option maxHeartbeats 8000000 in
set_option maxRecDepth 100000 in
theorem spec_l1Put.calls (k : Nat) (A0 : Option Addr) (c0 : Nat) (l0 : List (S92)) (a1 : Int) (a2 : Int) (r : List (S92)) (w : World) (hr0 : Kd.C k92 w A0 l0.length l0) (hc0 : l0.length ≤ c0) (h : spec_l1Put.f k l0 a1 a2 = some r) :
  Calls Try.prog 129 #[.slice A0 l0.length c0, .int .i64 a1, .int .i64 a2] w fun e w' => ∃ v0_ : Value, e = .returned (v0_) ∧ Kd.R k92 92 w' w.heap.size (fun _ => True) v0_ r ∧ Below w.heap.size w w' := by
 have hu92 := Try.underlying92
 have HR0 := q_ hr0
 have HC0 := q_ hc0
 clear hr0 hc0
 have HB := q_ (Below.refl w.heap.size w)
 have H := h; clear h
 unfold spec_l1Put.f at H
 obtain ⟨y242, hy_⟩ : ∃ y_ : List (S92), y_ = (([] : List (S92))) := ⟨_, rfl⟩
 replace H : (spec_l1Put.l0 k l0 a1 a2 y242 false 0) = some r := z3_
 have Ny242 := q_ hy_
 clear hy_
 have H' := q_ H
 clear H
 go_enter Try.func129, Try.ntmps129
 go_wp2_with (first | ((with_reducible refine gate_dst (N := 10) rfl ?_); refine Kd.R_lit k92 _ 92 ?hg (N := 10) ?hd (xs := ([] : List (S92))) (inner := []) (ok := fun _ => True) (okp := fun _ => True) ?hr ?hp (fun _ hk => hk) trivial (Below.refl _ _) (Nat.le_refl _) (by simp) ?_; (case hd => rfl); (case hg => rfl); (case hr => exact z104_); (case hp => exact z135_); intro v243 w4 ho5 hb hg_ hnew_; clear hg_ hnew_; (first | rw [← Ny242.out] at ho5 | (simp only [Int.reduceToNat] at ho5; rw [← Ny242.out] at ho5)); have HO244 := q_ (Kd.R_lower ho5 (below_size cb_)); replace HB := hb_ hb; clear hb ho5))
 go_loopg [7, 8, 9] k (fun kq v7 v8 v9 w' => ∃ (x7_1 : List (S92)) (x8_1 : Bool) (x9_1 : Int), v8 = .bool x8_1 ∧ v9 = .int .i64 x9_1 ∧ Aside0 (spec_l1Put.l0 kq l0 a1 a2 x7_1 x8_1 x9_1 = some r) ∧ Aside0 (kq ≤ k) ∧ Aside0 (Kd.R k92 92 w' w.heap.size (fun _ => True) v7 x7_1) ∧ Aside0 (Below w.heap.size w w'))
 case atStart => exact ⟨(y242), (false), (0), z4_, z4_, H', ⟨Nat.le_refl _⟩, ⟨by (with_reducible repeat (first | apply Kd.R_alloc | apply Kd.R_drewN | apply Kd.R_drew)); exact HO244.out⟩, ⟨cb_⟩⟩
 case round =>
  clear H'
  try clear c1
  try clear p2
  obtain ⟨x7_1, x8_1, x9_1, rfl, rfl, HA, HK1, HO_7, HB⟩ := hrel
  obtain ⟨k1, rfl, H⟩ := rn_ (k := gk) HA (by rintro rfl; simp only [spec_l1Put.l0])
  clear HA
  simp only [spec_l1Put.l0] at H
  replace H := kd_ H; rcases H with ⟨c6b0, H⟩ | ⟨c6b0, H⟩
  ·have HC7 := q_ H
   clear H
   go_upto_region 6 with (fail)
   go_cut [27] (fun v27 wc => ∃ (kq : Nat) (x27_6 : Bool), v27 = .bool x27_6 ∧ Aside0 (spec_l1Put.j1 kq l0 a1 a2 x7_1 x8_1 x9_1 x27_6 = some r) ∧ Aside0 (kq ≤ k1) ∧ Aside0 (Kd.R k92 92 wc w.heap.size (fun _ => True) u7 x7_1) ∧ Aside0 (Below w.heap.size w wc))
   case first =>
    have H := HC7.out
    clear HC7
    replace H := kb_ H; rcases H with ⟨rfl, H⟩ | ⟨rfl, H⟩
    ·have H' := q_ H
     clear H
     go_wp2
     go_meet
     case rel => exact ⟨_, (false), z4_, H', ⟨by have := HK1.out; first | omega | exact Nat.le_refl _⟩, ⟨z42_⟩, ⟨cb_⟩⟩
    ·replace H := kdn_ H; obtain ⟨c9b0, H⟩ := H
     (first | rw [c9b0] | rw [c9b1] | (simp only [i64_w, i32_w]; first | rw [c9b0] | rw [c9b1]) | rw [c9b2] | skip)
     have H' := q_ H
     clear H
     have p248 : 0 ≤ (x9_1 : Int) := of_decide_eq_true z2_
     have q248 : x9_1 < (l0.length : Int) := of_decide_eq_true z2_
     obtain ⟨ad248, e248, hx248_0, hx248_1⟩ := at_T92 HR0.out x9_1 p248 q248
     cases e248
     replace hx248_0 := up_ HB hx248_0
     replace hx248_1 := up_ HB hx248_1
     replace p248 := eq_true p248
     replace q248 := eq_true q248
     go_wp2
     go_meet
     case rel => exact ⟨_, (decide (((rd_T92 l0 x9_1).f0) ≥ a1)), z4_, H', ⟨by have := HK1.out; first | omega | exact Nat.le_refl _⟩, ⟨z42_⟩, ⟨cb_⟩⟩
   case rest =>
    clear HC7
    try clear c1
    try clear p2
    try clear q2
    try clear hx2
    try clear c6
    try clear c6b0
    try clear c8
    try clear c9
    try clear c9b0
    try clear c9b1
    try clear c9b2
    try clear hx248_0
    try clear hx248_1
    try clear p2
    try clear p248
    try clear q248
    obtain ⟨kq, x27_6, rfl, HA, HJ6, HO_7, HB⟩ := hcut
    obtain ⟨kj6, rfl, H⟩ := rn_ (k := kq) HA (by rintro rfl; simp only [spec_l1Put.j1])
    clear HA
    simp only [spec_l1Put.j1] at H
    replace H := kb_ H; rcases H with ⟨rfl, H⟩ | ⟨rfl, H⟩
    ·replace H := kln_ H; obtain ⟨LMc11, H⟩ := H
     obtain ⟨y249, hy_⟩ : ∃ y_ : List (S92), y_ = (x7_1 ++ [(⟨a1, a2⟩ : S92)]) := ⟨_, rfl⟩
     replace H : (if 0 ≤ x9_1 then (if x9_1 < (l0.length : Int) then (if ((rd_T92 l0 x9_1).f0) = a1 then (spec_l1Put.l0 kj6 l0 a1 a2 y249 true (wrap64 (x9_1 + 1))) else (if y249.length < 8796093022208 then (spec_l1Put.l0 kj6 l0 a1 a2 (y249 ++ [(⟨(rd_T92 l0 x9_1).f0, (rd_T92 l0 x9_1).f1⟩ : S92)]) true (wrap64 (x9_1 + 1))) else (none))) else (none)) else (none)) = some r := z3_
     have Ny249 := q_ hy_
     clear hy_
     replace H := kdn_ H; obtain ⟨c12b0, H⟩ := H
     replace H := kdn_ H; obtain ⟨c13b0, H⟩ := H
     have HC14 := q_ H
     clear H
     go_upto_if 40 with (first | ((with_reducible refine gate_builtin (b := .append) (xs := #[.tmp 28, .tmp 32]) rfl ?_); at_builtin; refine Kd.R_append k92 (w0 := w) w.heap.size rfl (.tmp 28) (.tmp 32) 30 92 (.agg #[(.int .i64 0), (.int .i64 0)]) 16 rfl Try.underlying30 info92 rfl (by decide) (by omega) u7 x7_1 (⟨a1, a2⟩ : S92) [.int .i64 a1, .int .i64 a2] (fun _ => True) (fun _ => False) rfl rfl ?aP (fun _ hk => hk.elim) ?aF ?aO ?aB ?aS ?aL ?_; (case aP => exact k92_mkM _ _ _ (⟨a1, a2⟩ : S92)); (case aB => exact cb_); (case aF => exact z134_); (case aO => exact z42_); (case aS => exact z133_); (case aL => have := LMc11.out; omega); intro v250 w15 ho hb hg hat; rw [← Ny249.out] at ho; replace HB := q_ (hb); have HO251 := q_ (ho); clear HO_7; clear ho hb hg hat; have p252 : 0 ≤ (x9_1 : Int) := of_decide_eq_true z2_; have q252 : x9_1 < (l0.length : Int) := of_decide_eq_true z2_; obtain ⟨ad252, e252, hx252_0, hx252_1⟩ := at_T92 HR0.out x9_1 p252 q252; cases e252; replace hx252_0 := up_ HB hx252_0; replace hx252_1 := up_ HB hx252_1; replace p252 := eq_true p252; replace q252 := eq_true q252))
     (try simp only [Act.put, List.setIfInBounds_toArray, List.set_cons_zero, List.set_cons_succ])
     have H := HC14.out
     clear HC14
     replace H := ke_ H; rcases H with ⟨c16b0, c16b1, H⟩ | ⟨c16, c16b0, c16b1, H⟩
     ·(first | rw [c16b0] | rw [c16b1] | (simp only [i64_w, i32_w]; first | rw [c16b0] | rw [c16b1]) | rw [c16b2] | skip)
      have H' := q_ H
      clear H
      go_wp2
      go_roundg kj6
      case measure => have := HK1.out; have := HJ6.out; omega
      case rel => exact ⟨(y249), (true), (wrap64 (x9_1 + 1)), z4_, z4_, H', ⟨z92_⟩, ⟨z88_⟩, ⟨cb_⟩⟩
     ·(first | rw [c16b0] | rw [c16b1] | (simp only [i64_w, i32_w]; first | rw [c16b0] | rw [c16b1]) | rw [c16b2] | skip)
      replace H := kln_ H; obtain ⟨LMc17, H⟩ := H
      obtain ⟨y254, hy_⟩ : ∃ y_ : List (S92), y_ = (y249 ++ [(⟨(rd_T92 l0 x9_1).f0, (rd_T92 l0 x9_1).f1⟩ : S92)]) := ⟨_, rfl⟩
      replace H : (spec_l1Put.l0 kj6 l0 a1 a2 y254 true (wrap64 (x9_1 + 1))) = some r := z3_
      have Ny254 := q_ hy_
      clear hy_
      have H' := q_ H
      clear H
      have p253 : 0 ≤ (x9_1 : Int) := of_decide_eq_true z2_
      have q253 : x9_1 < (l0.length : Int) := of_decide_eq_true z2_
      obtain ⟨ad253, e253, hx253_0, hx253_1⟩ := at_T92 HR0.out x9_1 p253 q253
      obtain rfl : ad252 = ad253 := (by injection e253)
      replace hx253_0 := up_ HB hx253_0
      replace hx253_1 := up_ HB hx253_1
      replace p253 := eq_true p253
      replace q253 := eq_true q253
      go_wp2_with (first | ((with_reducible refine gate_builtin (b := .append) (xs := #[.tmp 41, .tmp 46]) rfl ?_); at_builtin; refine Kd.R_append k92 (w0 := w) w.heap.size rfl (.tmp 41) (.tmp 46) 30 92 (.agg #[(.int .i64 0), (.int .i64 0)]) 16 rfl Try.underlying30 info92 rfl (by decide) (by omega) v250 y249 (⟨(rd_T92 l0 x9_1).f0, (rd_T92 l0 x9_1).f1⟩ : S92) [.int .i64 ((rd_T92 l0 x9_1).f0), .int .i64 ((rd_T92 l0 x9_1).f1)] (fun _ => True) (fun _ => False) rfl rfl ?aP (fun _ hk => hk.elim) ?aF ?aO ?aB ?aS ?aL ?_; (case aP => exact k92_mkM _ _ _ (⟨(rd_T92 l0 x9_1).f0, (rd_T92 l0 x9_1).f1⟩ : S92)); (case aB => exact cb_); (case aF => exact z134_); (case aO => exact z88_); (case aS => exact z133_); (case aL => have := LMc17.out; omega); intro v255 w18 ho hb hg hat; rw [← Ny254.out] at ho; replace HB := q_ (hb); have HO256 := q_ (ho); clear HO251; clear ho hb hg hat))
      go_roundg kj6
      case measure => have := HK1.out; have := HJ6.out; omega
      case rel => exact ⟨(y254), (true), (wrap64 (x9_1 + 1)), z4_, z4_, H', ⟨z92_⟩, ⟨by (with_reducible repeat (first | apply Kd.R_alloc | apply Kd.R_drewN | apply Kd.R_drew)); exact HO256.out⟩, ⟨cb_⟩⟩
    ·replace H := kdn_ H; obtain ⟨c19b0, H⟩ := H
     replace H := kdn_ H; obtain ⟨c20b0, H⟩ := H
     replace H := ke_ H; rcases H with ⟨c21b0, c21b1, H⟩ | ⟨c21, c21b0, c21b1, H⟩
     ·have H' := q_ H
      clear H
      have p257 : 0 ≤ (x9_1 : Int) := of_decide_eq_true z2_
      have q257 : x9_1 < (l0.length : Int) := of_decide_eq_true z2_
      obtain ⟨ad257, e257, hx257_0, hx257_1⟩ := at_T92 HR0.out x9_1 p257 q257
      cases e257
      replace hx257_0 := up_ HB hx257_0
      replace hx257_1 := up_ HB hx257_1
      replace p257 := eq_true p257
      replace q257 := eq_true q257
      go_wp2
      go_roundg kj6
      case measure => have := HK1.out; have := HJ6.out; omega
      case rel => exact ⟨(x7_1), (x8_1), (wrap64 (x9_1 + 1)), z4_, z4_, H', ⟨z92_⟩, ⟨z42_⟩, ⟨cb_⟩⟩
     ·replace H := kln_ H; obtain ⟨LMc22, H⟩ := H
      obtain ⟨y259, hy_⟩ : ∃ y_ : List (S92), y_ = (x7_1 ++ [(⟨(rd_T92 l0 x9_1).f0, (rd_T92 l0 x9_1).f1⟩ : S92)]) := ⟨_, rfl⟩
      replace H : (spec_l1Put.l0 kj6 l0 a1 a2 y259 x8_1 (wrap64 (x9_1 + 1))) = some r := z3_
      have Ny259 := q_ hy_
      clear hy_
      have H' := q_ H
      clear H
      have p257 : 0 ≤ (x9_1 : Int) := of_decide_eq_true z2_
      have q257 : x9_1 < (l0.length : Int) := of_decide_eq_true z2_
      obtain ⟨ad257, e257, hx257_0, hx257_1⟩ := at_T92 HR0.out x9_1 p257 q257
      cases e257
      replace hx257_0 := up_ HB hx257_0
      replace hx257_1 := up_ HB hx257_1
      replace p257 := eq_true p257
      replace q257 := eq_true q257
      have p258 : 0 ≤ (x9_1 : Int) := of_decide_eq_true z2_
      have q258 : x9_1 < (l0.length : Int) := of_decide_eq_true z2_
      obtain ⟨ad258, e258, hx258_0, hx258_1⟩ := at_T92 HR0.out x9_1 p258 q258
      obtain rfl : ad257 = ad258 := (by injection e258)
      replace hx258_0 := up_ HB hx258_0
      replace hx258_1 := up_ HB hx258_1
      replace p258 := eq_true p258
      replace q258 := eq_true q258
      go_wp2_with (first | ((with_reducible refine gate_builtin (b := .append) (xs := #[.tmp 41, .tmp 46]) rfl ?_); at_builtin; refine Kd.R_append k92 (w0 := w) w.heap.size rfl (.tmp 41) (.tmp 46) 30 92 (.agg #[(.int .i64 0), (.int .i64 0)]) 16 rfl Try.underlying30 info92 rfl (by decide) (by omega) u7 x7_1 (⟨(rd_T92 l0 x9_1).f0, (rd_T92 l0 x9_1).f1⟩ : S92) [.int .i64 ((rd_T92 l0 x9_1).f0), .int .i64 ((rd_T92 l0 x9_1).f1)] (fun _ => True) (fun _ => False) rfl rfl ?aP (fun _ hk => hk.elim) ?aF ?aO ?aB ?aS ?aL ?_; (case aP => exact k92_mkM _ _ _ (⟨(rd_T92 l0 x9_1).f0, (rd_T92 l0 x9_1).f1⟩ : S92)); (case aB => exact cb_); (case aF => exact z134_); (case aO => exact z42_); (case aS => exact z133_); (case aL => have := LMc22.out; omega); intro v260 w23 ho hb hg hat; rw [← Ny259.out] at ho; replace HB := q_ (hb); have HO261 := q_ (ho); clear HO_7; clear ho hb hg hat))
      go_roundg kj6
      case measure => have := HK1.out; have := HJ6.out; omega
      case rel => exact ⟨(y259), (x8_1), (wrap64 (x9_1 + 1)), z4_, z4_, H', ⟨z92_⟩, ⟨by (with_reducible repeat (first | apply Kd.R_alloc | apply Kd.R_drewN | apply Kd.R_drew)); exact HO261.out⟩, ⟨cb_⟩⟩
  ·replace H := kb_ H; rcases H with ⟨rfl, H⟩ | ⟨rfl, H⟩
   ·obtain rfl := si_ H
    go_wp2
    go_ret
    exact ⟨_, z1_, z42_, cb_⟩
   ·replace H := kln_ H; obtain ⟨LMc25, H⟩ := H
    obtain ⟨y245, hy_⟩ : ∃ y_ : List (S92), y_ = (x7_1 ++ [(⟨a1, a2⟩ : S92)]) := ⟨_, rfl⟩
    replace H : (some y245) = some r := z3_
    have Ny245 := q_ hy_
    clear hy_
    obtain rfl := si_ H
    go_wp2_with (first | ((with_reducible refine gate_builtin (b := .append) (xs := #[.tmp 50, .tmp 54]) rfl ?_); at_builtin; refine Kd.R_append k92 (w0 := w) w.heap.size rfl (.tmp 50) (.tmp 54) 30 92 (.agg #[(.int .i64 0), (.int .i64 0)]) 16 rfl Try.underlying30 info92 rfl (by decide) (by omega) u7 x7_1 (⟨a1, a2⟩ : S92) [.int .i64 a1, .int .i64 a2] (fun _ => True) (fun _ => False) rfl rfl ?aP (fun _ hk => hk.elim) ?aF ?aO ?aB ?aS ?aL ?_; (case aP => exact k92_mkM _ _ _ (⟨a1, a2⟩ : S92)); (case aB => exact cb_); (case aF => exact z134_); (case aO => exact z42_); (case aS => exact z133_); (case aL => have := LMc25.out; omega); intro v246 w26 ho hb hg hat; rw [← Ny245.out] at ho; replace HB := q_ (hb); have HO247 := q_ (ho); clear HO_7; clear ho hb hg hat))
    go_ret
    exact ⟨_, z1_, by (with_reducible repeat (first | apply Kd.R_alloc | apply Kd.R_drewN | apply Kd.R_drew)); exact HO247.out, cb_⟩

/-! ### spec_l1Without: function 130 -/
def spec_l1Without.l0 : Nat → List (S92) → Int → List (S92) → Int → Option ((List (S92)))
 | 0, _, _, _, _ => none
 | k + 1, x0, x1, x5, x6 => if x6 < (x0.length : Int) then (if 0 ≤ x6 then (if ((rd_T92 x0 x6).f0) = x1 then (spec_l1Without.l0 k x0 x1 x5 (wrap64 (x6 + 1))) else (if x5.length < 8796093022208 then (spec_l1Without.l0 k x0 x1 (x5 ++ [(⟨(rd_T92 x0 x6).f0, (rd_T92 x0 x6).f1⟩ : S92)]) (wrap64 (x6 + 1))) else (none))) else (none)) else (some x5)
def spec_l1Without.f (k : Nat) (l0 : List (S92)) (a1 : Int) : Option ((List (S92))) := spec_l1Without.l0 k l0 a1 (([] : List (S92))) 0
theorem spec_l1Without.mono_l : ∀ k, (∀ y0 y1 y2 y3, LeO (spec_l1Without.l0 k y0 y1 y2 y3) (spec_l1Without.l0 (k + 1) y0 y1 y2 y3))
 | 0 => fun _ _ _ _ r h => by simp [spec_l1Without.l0] at h
 | k + 1 => by
  have ih0 := spec_l1Without.mono_l k
  ·intro y0 y1 y2 y3
   unfold spec_l1Without.l0
   exact zm_
theorem spec_l1Without.mono : ∀ a0 a1 k, LeO (spec_l1Without.f k a0 a1) (spec_l1Without.f (k + 1) a0 a1) := by
 intro a0 a1 k
 have ih0 := spec_l1Without.mono_l k
 unfold spec_l1Without.f
 exact zm_
set_option maxHeartbeats 8000000 in
set_option maxRecDepth 100000 in
theorem spec_l1Without.calls (k : Nat) (A0 : Option Addr) (c0 : Nat) (l0 : List (S92)) (a1 : Int) (r : List (S92)) (w : World) (hr0 : Kd.C k92 w A0 l0.length l0) (hc0 : l0.length ≤ c0) (h : spec_l1Without.f k l0 a1 = some r) :
  Calls Try.prog 130 #[.slice A0 l0.length c0, .int .i64 a1] w fun e w' => ∃ v0_ : Value, e = .returned (v0_) ∧ Kd.R k92 92 w' w.heap.size (fun _ => True) v0_ r ∧ Below w.heap.size w w' := by
 have hu92 := Try.underlying92
 have HR0 := q_ hr0
 have HC0 := q_ hc0
 clear hr0 hc0
 have HB := q_ (Below.refl w.heap.size w)
 have H := h; clear h
 unfold spec_l1Without.f at H
 obtain ⟨y262, hy_⟩ : ∃ y_ : List (S92), y_ = (([] : List (S92))) := ⟨_, rfl⟩
 replace H : (spec_l1Without.l0 k l0 a1 y262 0) = some r := z3_
 have Ny262 := q_ hy_
 clear hy_
 have H' := q_ H
 clear H
 go_enter Try.func130, Try.ntmps130
 go_wp2_with (first | ((with_reducible refine gate_dst (N := 7) rfl ?_); refine Kd.R_lit k92 _ 92 ?hg (N := 7) ?hd (xs := ([] : List (S92))) (inner := []) (ok := fun _ => True) (okp := fun _ => True) ?hr ?hp (fun _ hk => hk) trivial (Below.refl _ _) (Nat.le_refl _) (by simp) ?_; (case hd => rfl); (case hg => rfl); (case hr => exact z104_); (case hp => exact z135_); intro v263 w3 ho4 hb hg_ hnew_; clear hg_ hnew_; (first | rw [← Ny262.out] at ho4 | (simp only [Int.reduceToNat] at ho4; rw [← Ny262.out] at ho4)); have HO264 := q_ (Kd.R_lower ho4 (below_size cb_)); replace HB := hb_ hb; clear hb ho4))
 go_loopg [5, 6] k (fun kq v5 v6 w' => ∃ (x5_1 : List (S92)) (x6_1 : Int), v6 = .int .i64 x6_1 ∧ Aside0 (spec_l1Without.l0 kq l0 a1 x5_1 x6_1 = some r) ∧ Aside0 (kq ≤ k) ∧ Aside0 (Kd.R k92 92 w' w.heap.size (fun _ => True) v5 x5_1) ∧ Aside0 (Below w.heap.size w w'))
 case atStart => exact ⟨(y262), (0), z4_, H', ⟨Nat.le_refl _⟩, ⟨by (with_reducible repeat (first | apply Kd.R_alloc | apply Kd.R_drewN | apply Kd.R_drew)); exact HO264.out⟩, ⟨cb_⟩⟩
 case round =>
  clear H'
  try clear c1
  try clear p2
  obtain ⟨x5_1, x6_1, rfl, HA, HK1, HO_5, HB⟩ := hrel
  obtain ⟨k1, rfl, H⟩ := rn_ (k := gk) HA (by rintro rfl; simp only [spec_l1Without.l0])
  clear HA
  simp only [spec_l1Without.l0] at H
  replace H := kd_ H; rcases H with ⟨c5b0, H⟩ | ⟨c5b0, H⟩
  ·replace H := kdn_ H; obtain ⟨c6b0, H⟩ := H
   replace H := ke_ H; rcases H with ⟨c7b0, c7b1, H⟩ | ⟨c7, c7b0, c7b1, H⟩
   ·have H' := q_ H
    clear H
    have p265 : 0 ≤ (x6_1 : Int) := of_decide_eq_true z2_
    have q265 : x6_1 < (l0.length : Int) := of_decide_eq_true z2_
    obtain ⟨ad265, e265, hx265_0, hx265_1⟩ := at_T92 HR0.out x6_1 p265 q265
    cases e265
    replace hx265_0 := up_ HB hx265_0
    replace hx265_1 := up_ HB hx265_1
    replace p265 := eq_true p265
    replace q265 := eq_true q265
    go_wp2
    go_roundg k1
    case measure => have := HK1.out; omega
    case rel => exact ⟨(x5_1), (wrap64 (x6_1 + 1)), z4_, H', ⟨z29_⟩, ⟨z12_⟩, ⟨cb_⟩⟩
   ·replace H := kln_ H; obtain ⟨LMc8, H⟩ := H
    obtain ⟨y267, hy_⟩ : ∃ y_ : List (S92), y_ = (x5_1 ++ [(⟨(rd_T92 l0 x6_1).f0, (rd_T92 l0 x6_1).f1⟩ : S92)]) := ⟨_, rfl⟩
    replace H : (spec_l1Without.l0 k1 l0 a1 y267 (wrap64 (x6_1 + 1))) = some r := z3_
    have Ny267 := q_ hy_
    clear hy_
    have H' := q_ H
    clear H
    have p265 : 0 ≤ (x6_1 : Int) := of_decide_eq_true z2_
    have q265 : x6_1 < (l0.length : Int) := of_decide_eq_true z2_
    obtain ⟨ad265, e265, hx265_0, hx265_1⟩ := at_T92 HR0.out x6_1 p265 q265
    cases e265
    replace hx265_0 := up_ HB hx265_0
    replace hx265_1 := up_ HB hx265_1
    replace p265 := eq_true p265
    replace q265 := eq_true q265
    have p266 : 0 ≤ (x6_1 : Int) := of_decide_eq_true z2_
    have q266 : x6_1 < (l0.length : Int) := of_decide_eq_true z2_
    obtain ⟨ad266, e266, hx266_0, hx266_1⟩ := at_T92 HR0.out x6_1 p266 q266
    obtain rfl : ad265 = ad266 := (by injection e266)
    replace hx266_0 := up_ HB hx266_0
    replace hx266_1 := up_ HB hx266_1
    replace p266 := eq_true p266
    replace q266 := eq_true q266
    go_wp2_with (first | ((with_reducible refine gate_builtin (b := .append) (xs := #[.tmp 21, .tmp 26]) rfl ?_); at_builtin; refine Kd.R_append k92 (w0 := w) w.heap.size rfl (.tmp 21) (.tmp 26) 30 92 (.agg #[(.int .i64 0), (.int .i64 0)]) 16 rfl Try.underlying30 info92 rfl (by decide) (by omega) u5 x5_1 (⟨(rd_T92 l0 x6_1).f0, (rd_T92 l0 x6_1).f1⟩ : S92) [.int .i64 ((rd_T92 l0 x6_1).f0), .int .i64 ((rd_T92 l0 x6_1).f1)] (fun _ => True) (fun _ => False) rfl rfl ?aP (fun _ hk => hk.elim) ?aF ?aO ?aB ?aS ?aL ?_; (case aP => exact k92_mkM _ _ _ (⟨(rd_T92 l0 x6_1).f0, (rd_T92 l0 x6_1).f1⟩ : S92)); (case aB => exact cb_); (case aF => exact z134_); (case aO => exact z12_); (case aS => exact z133_); (case aL => have := LMc8.out; omega); intro v268 w9 ho hb hg hat; rw [← Ny267.out] at ho; replace HB := q_ (hb); have HO269 := q_ (ho); clear HO_5; clear ho hb hg hat))
    go_roundg k1
    case measure => have := HK1.out; omega
    case rel => exact ⟨(y267), (wrap64 (x6_1 + 1)), z4_, H', ⟨z29_⟩, ⟨by (with_reducible repeat (first | apply Kd.R_alloc | apply Kd.R_drewN | apply Kd.R_drew)); exact HO269.out⟩, ⟨cb_⟩⟩
  ·obtain rfl := si_ H
   go_wp2
   go_ret
   exact ⟨_, z1_, z12_, cb_⟩

/-! ### spec_l1Max: function 140 -/
def spec_l1Max.f (a0 : Int) (a1 : Int) : Option (Int) := if a0 > a1 then (some a0) else (some a1)
set_option maxHeartbeats 8000000 in
set_option maxRecDepth 100000 in
theorem spec_l1Max.calls (a0 : Int) (a1 : Int) (r : Int) (w : World) (h : spec_l1Max.f a0 a1 = some r) :
  Calls Try.prog 140 #[.int .i64 a0, .int .i64 a1] w fun e w' => e = .returned (.int .i64 r) ∧ Drawn0 w w' := by
 have H := h; clear h
 unfold spec_l1Max.f at H
 replace H := kg_ H; rcases H with ⟨c3b0, H⟩ | ⟨c3b0, H⟩
 ·obtain rfl := si_ H
  go_enter Try.func140, Try.ntmps140
  go_wp2
  go_ret
  exact ⟨z4_, z7_⟩
 ·obtain rfl := si_ H
  go_enter Try.func140, Try.ntmps140
  go_wp2
  go_ret
  exact ⟨z4_, z7_⟩

/-! ### spec_l1Min: function 141 -/
def spec_l1Min.f (a0 : Int) (a1 : Int) : Option (Int) := if a0 < a1 then (some a0) else (some a1)
set_option maxHeartbeats 8000000 in
set_option maxRecDepth 100000 in
theorem spec_l1Min.calls (a0 : Int) (a1 : Int) (r : Int) (w : World) (h : spec_l1Min.f a0 a1 = some r) :
  Calls Try.prog 141 #[.int .i64 a0, .int .i64 a1] w fun e w' => e = .returned (.int .i64 r) ∧ Drawn0 w w' := by
 have H := h; clear h
 unfold spec_l1Min.f at H
 replace H := kd_ H; rcases H with ⟨c3b0, H⟩ | ⟨c3b0, H⟩
 ·obtain rfl := si_ H
  go_enter Try.func141, Try.ntmps141
  go_wp2
  go_ret
  exact ⟨z4_, z7_⟩
 ·obtain rfl := si_ H
  go_enter Try.func141, Try.ntmps141
  go_wp2
  go_ret
  exact ⟨z4_, z7_⟩

/-! ### spec_l1Clamp: function 131 -/
def spec_l1Clamp.f (a0 : Int) : Option (Int) := (spec_l1Min.f a0 1000000000).bind fun t270 => ((spec_l1Max.f t270 (-1000000000)).bind fun t271 => (some t271))
set_option maxHeartbeats 8000000 in
set_option maxRecDepth 100000 in
theorem spec_l1Clamp.calls (a0 : Int) (r : Int) (w : World) (h : spec_l1Clamp.f a0 = some r) :
  Calls Try.prog 131 #[.int .i64 a0] w fun e w' => e = .returned (.int .i64 r) ∧ Drawn0 w w' := by
 have H := h; clear h
 unfold spec_l1Clamp.f at H
 replace H := bi_ H; obtain ⟨t270, A2, H⟩ := H
 replace H := bi_ H; obtain ⟨t271, A3, H⟩ := H
 obtain rfl := si_ H
 go_enter Try.func131, Try.ntmps131
 go_wp2_with (first | ((with_reducible refine gate_callee (f := 141) rfl ?_); refine goesL_ (some 4) rfl rfl Try.func141 (by kernel_rfl) rfl #[.int .i64 a0, .int .i64 1000000000] rfl z0_ ?_; (with_reducible refine (spec_l1Min.calls a0 1000000000 t270 _ A2.out).mono ?_); rintro e w' ⟨rfl, ⟨nd, rfl⟩⟩; refine ⟨_, rfl, ?_⟩) | ((with_reducible refine gate_callee (f := 140) rfl ?_); refine goesL_ (some 5) rfl rfl Try.func140 (by kernel_rfl) rfl #[.int .i64 t270, .int .i64 (-1000000000)] rfl z0_ ?_; (with_reducible refine (spec_l1Max.calls t270 (-1000000000) t271 _ A3.out).mono ?_); rintro e w' ⟨rfl, ⟨nd, rfl⟩⟩; refine ⟨_, rfl, ?_⟩))
 go_ret
 exact ⟨z4_, z7_⟩

end Go.Proofs.Ytfnndcpaldkkoaa.PFnExactTreeGet
