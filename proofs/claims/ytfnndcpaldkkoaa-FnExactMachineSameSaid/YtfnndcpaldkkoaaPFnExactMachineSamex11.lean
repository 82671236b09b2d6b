-- Written by a program of this session, which goes by the kit's print. Not trusted: Lean checks it.
import Derived.Test.YtfnndcpaldkkoaaPFnExactMachineSamex0
import Derived.Test.YtfnndcpaldkkoaaPFnExactMachineSamex10
namespace Go.Proofs.Ytfnndcpaldkkoaa.PFnExactMachineSame
open Go.RowKit Go.Proofs.YtfnndcpaldkkoaaW.PrintWords Go.Proofs.YtfnndcpaldkkoaaW.PrintLast Go.Proofs.YtfnndcpaldkkoaaW.PrintMore
attribute [local go_sem] max2_int min2_int max_two min_two max_three min_three max_four min_four   -- for this text's walks alone
set_option linter.unusedVariables false
set_option linter.unusedSimpArgs false

/-! ### laws_toPairS: function 60 -/
def laws_toPairS.l0 : Nat → List (S107) → List (S92) → Int → Option ((List (S92)))
 | 0, _, _, _ => none
 | k + 1, x0, x3, x4 => if x4 < (x0.length : Int) then (if 0 ≤ x4 then ((laws_toPair.f ((rd_T107 x0 x4).f0) ((rd_T107 x0 x4).f1)).bind fun bt258 => (if x4 < (x3.length : Int) then (laws_toPairS.l0 k x0 (x3.set (x4 : Int).toNat (⟨bt258.1, bt258.2⟩ : S92)) (wrap64 (x4 + 1))) else (none))) else (none)) else (some x3)
def laws_toPairS.f (k : Nat) (l0 : List (S107)) : Option ((List (S92))) := if 0 ≤ (l0.length : Int) then (if ((l0.length : Int) : Int).toNat ≤ 17592186044416 then (laws_toPairS.l0 k l0 (List.replicate ((l0.length : Int) : Int).toNat z92) 0) else (none)) else (none)
theorem laws_toPairS.mono_l : ∀ k, (∀ y0 y1 y2, LeO (laws_toPairS.l0 k y0 y1 y2) (laws_toPairS.l0 (k + 1) y0 y1 y2))
 | 0 => fun _ _ _ r h => by simp [laws_toPairS.l0] at h
 | k + 1 => by
  have ih0 := laws_toPairS.mono_l k
  ·intro y0 y1 y2
   unfold laws_toPairS.l0
   exact zm_
theorem laws_toPairS.mono : ∀ a0 k, LeO (laws_toPairS.f k a0) (laws_toPairS.f (k + 1) a0) := by
 intro a0 k
 have ih0 := laws_toPairS.mono_l k
 unfold laws_toPairS.f
 exact zm_
set_option maxHeartbeats 8000000 in
set_option maxRecDepth 100000 in
theorem laws_toPairS.calls (k : Nat) (A0 : Option Addr) (c0 : Nat) (l0 : List (S107)) (r : List (S92)) (w : World) (hr0 : Kd.C k107 w A0 l0.length l0) (hc0 : l0.length ≤ c0) (h : laws_toPairS.f k l0 = some r) :
  Calls Try.prog 60 #[.slice A0 l0.length c0] w fun e w' => ∃ v0_ : Value, e = .returned (v0_) ∧ Kd.R k92 92 w' w.heap.size (fun _ => True) v0_ r ∧ Below w.heap.size w w' := by
 have hu107 := Try.underlying107
 have hu92 := Try.underlying92
 have HR0 := q_ hr0
 have HC0 := q_ hc0
 clear hr0 hc0
 have HB := q_ (Below.refl w.heap.size w)
 have H := h; clear h
 unfold laws_toPairS.f at H
 replace H := ktn_ H; obtain ⟨c2b0, c2b1, H⟩ := H
 replace H := ktn_ H; obtain ⟨c3b0, c3b1, H⟩ := H
 obtain ⟨y254, hy_⟩ : ∃ y_ : List (S92), y_ = (List.replicate ((l0.length : Int) : Int).toNat z92) := ⟨_, rfl⟩
 replace H : (laws_toPairS.l0 k l0 y254 0) = some r := z3_
 have Ny254 := q_ hy_
 clear hy_
 have H' := q_ H
 clear H
 go_enter Try.func60, Try.ntmps60
 go_wp2_with (first | ((with_reducible refine gate_dst (N := 7) rfl ?_); refine Kd.R_make k92 _ 92 rfl (N := 7) rfl 30 _ _ rfl (l0.length : Int) rfl rfl Try.underlying30 (.agg #[(.int .i64 0), (.int .i64 0)]) 16 info92 rfl (by decide) (by omega) z92 (ok := fun _ => True) (okp := fun _ => True) (k92_mkM _ _ _ z92 ) (fun _ hk => hk) trivial (of_decide_eq_true z2_) (Nat.le_trans (Nat.mul_le_mul_right _ (of_decide_eq_true z2_ : (l0.length : Int).toNat ≤ 17592186044416)) (by omega)) (Below.refl _ _) (Nat.le_refl _) ?_; intro v255 w4 ho5 hb hg_ hnew_; clear hg_ hnew_; (first | rw [← Ny254.out] at ho5 | (simp only [Int.reduceToNat] at ho5; rw [← Ny254.out] at ho5)); have HO256 := q_ (Kd.R_lower ho5 (below_size cb_)); replace HB := hb_ hb; clear hb ho5))
 go_loopg [4] k (fun kq v4 w' => ∃ (x3_1 : List (S92)) (x4_1 : Int), v4 = .int .i64 x4_1 ∧ Aside0 (laws_toPairS.l0 kq l0 x3_1 x4_1 = some r) ∧ Aside0 (kq ≤ k) ∧ Aside0 (Kd.R k92 92 w' w.heap.size (fun _ => True) v255 x3_1) ∧ Aside0 (Below w.heap.size w w'))
 case atStart => exact ⟨(y254), (0), z4_, H', ⟨Nat.le_refl _⟩, ⟨by (with_reducible repeat (first | apply Kd.R_alloc | apply Kd.R_drewN | apply Kd.R_drew)); exact HO256.out⟩, ⟨cb_⟩⟩
 case round =>
  clear H'
  try clear c2
  try clear c2b0
  try clear c2b1
  try clear p2
  try clear c3
  try clear c3b0
  try clear c3b1
  obtain ⟨x3_1, x4_1, rfl, HA, HK1, HO_3, HB⟩ := hrel
  obtain ⟨k1, rfl, H⟩ := rn_ (k := gk) HA (by rintro rfl; simp only [laws_toPairS.l0])
  clear HA
  simp only [laws_toPairS.l0] at H
  replace H := kd_ H; rcases H with ⟨c6b0, H⟩ | ⟨c6b0, H⟩
  ·replace H := kdn_ H; obtain ⟨c7b0, H⟩ := H
   replace H := bi_ H; obtain ⟨⟨t258, t259⟩, A8, H⟩ := H
   (try dsimp only at H)
   replace H := kdn_ H; obtain ⟨c9b0, H⟩ := H
   obtain ⟨y260, hy_⟩ : ∃ y_ : List (S92), y_ = (x3_1.set (x4_1 : Int).toNat (⟨t258, t259⟩ : S92)) := ⟨_, rfl⟩
   replace H : (laws_toPairS.l0 k1 l0 y260 (wrap64 (x4_1 + 1))) = some r := z3_
   have Ny260 := q_ hy_
   clear hy_
   have H' := q_ H
   clear H
   have p257 : 0 ≤ (x4_1 : Int) := of_decide_eq_true z2_
   have q257 : x4_1 < (l0.length : Int) := of_decide_eq_true z2_
   obtain ⟨ad257, e257, hx257_0, hx257_1⟩ := at_T107 HR0.out x4_1 p257 q257
   cases e257
   replace hx257_0 := up_ HB hx257_0
   replace hx257_1 := up_ HB hx257_1
   replace p257 := eq_true p257
   replace q257 := eq_true q257
   go_wp2_with (first | ((with_reducible refine gate_callee (f := 99) rfl ?_); refine goesL_ (some 20) rfl rfl Try.func99 (by kernel_rfl) rfl #[.agg #[.int .i64 ((rd_T107 l0 x4_1).f0), .int .i64 ((rd_T107 l0 x4_1).f1)]] rfl z0_ ?_; (with_reducible refine (laws_toPair.calls ((rd_T107 l0 x4_1).f0) ((rd_T107 l0 x4_1).f1) t258 t259 _ A8.out).mono ?_); rintro e w11 ⟨rfl, hb⟩; refine ⟨_, rfl, ?_⟩; replace HO_3 := q_ (Kd.R_below z7_ hb); replace HB := hb_ hb; (try clear hb); (try clear hb2); (try clear hk); (try clear hi); have p10 : 0 ≤ (x4_1 : Int) := of_decide_eq_true z2_; have q10 : (x4_1 : Int) < ((x3_1.length : Int) : Int) := of_decide_eq_true z2_; obtain ⟨go10, co10, eo10, gb10, gl10, cl10, HG10⟩ := Kd.R_form HO_3.out (by omega); (first | cases eo10 | (injection eo10 with ea_ en_ ec_; (first | subst ea_ | (injection ea_ with ea_; subst ea_)); subst ec_; clear en_)); have GB10 := q_ gb10; have GG10 := q_ HG10; clear gb10 gl10 HG10; obtain ⟨ce10, hcl10, hM10, hcc10, hfr10⟩ := Kd.R_elem HO_3.out z92 (x4_1 : Int) p10 q10; obtain rfl := k92_openM hM10; have hx10_0 : w11.cell? ⟨go10, (x4_1 : Int).toNat * 2, none⟩ = some (.int .i64 ((rd_T92 x3_1 x4_1).f0)) := hcc10 0 _ rfl; have hx10_1 : w11.cell? ⟨go10, (x4_1 : Int).toNat * 2 + 1, none⟩ = some (.int .i64 ((rd_T92 x3_1 x4_1).f1)) := hcc10 1 _ rfl; have hf10_0 : w11.frozen? ⟨go10, (x4_1 : Int).toNat * 2, none⟩ = false := hfr10 0; have hf10_1 : w11.frozen? ⟨go10, (x4_1 : Int).toNat * 2 + 1, none⟩ = false := hfr10 1; clear hcl10 hcc10 hfr10 hM10; replace p10 := eq_true p10; replace q10 := eq_true q10; have HX12 := q_ (show Kd.R k92 92 w11 w.heap.size (fun _ => True) (.slice (some ⟨go10, 0, none⟩) x3_1.length co10) x3_1 from z7_); obtain ⟨ce12, hcl12, hM12, hcc12, hfr12⟩ := Kd.R_elem HX12.out z92 (x4_1 : Int) (of_decide_eq_true z2_) z87_; obtain rfl := k92_openM hM12; have HP12 := Kd.R_seg HX12.out (x4_1 : Int) (of_decide_eq_true z2_) z87_ (seg := [.int .i64 t258, .int .i64 t259]) (j := 0) hcl12 hcc12 (show 2 ≤ 2 from by decide) (x' := (⟨t258, t259⟩ : S92)) (k92_mkM _ _ _ (⟨t258, t259⟩ : S92) ) (fun _ hk => hk); have hx12_0 := hcc12 0 _ rfl; (try simp only [show (k92).sz = 2 from rfl, Nat.mul_one, Nat.add_zero] at hx12_0); have hf12_0 := hfr12 0; (try simp only [show (k92).sz = 2 from rfl, Nat.mul_one, Nat.add_zero] at hf12_0); have hx12_1 := hcc12 1 _ rfl; (try simp only [show (k92).sz = 2 from rfl, Nat.mul_one, Nat.add_zero] at hx12_1); have hf12_1 := hfr12 1; (try simp only [show (k92).sz = 2 from rfl, Nat.mul_one, Nat.add_zero] at hf12_1); clear hcl12 hcc12 hfr12 hM12) | ((with_reducible refine gate_store (t := 92) (p := 21) rfl ?_); refine store_event (t := 92) (p := 21) (v := ?vo_w13) (w1 := ((w11.setCell ⟨go10, (x4_1 : Int).toNat * 2, none⟩ (.int .i64 t258)).setCell ⟨go10, (x4_1 : Int).toNat * 2 + 1, none⟩ (.int .i64 t259))) ?hg ?ho ?hn ?hr ?_; (case ho => rfl); (case hg => rfl); (case hn => rfl); (case hr => exact z92_); intro w13 hw; have hg : w11.grownBy w13 (some go10) := z86_; have hp_ : Kd.R k92 92 w13 w.heap.size (fun _ => True) (.slice (some ⟨go10, 0, none⟩) x3_1.length co10) y260 := (by rw [hw, Ny260.out]; exact HP12.1); clear HP12; replace HO_3 := q_ (hp_); replace HB := q_ ((by rw [hw]; exact below_set (below_set (HB.out) GB10.out) GB10.out : Below w.heap.size w w13)); clear hg hw hp_))
   go_roundg k1
   case measure => have := HK1.out; omega
   case rel => exact ⟨(y260), (wrap64 (x4_1 + 1)), z4_, H', ⟨z37_⟩, ⟨z7_⟩, ⟨cb_⟩⟩
  ·obtain rfl := si_ H
   go_wp2
   go_ret
   exact ⟨_, z1_, z7_, cb_⟩

/-! ### laws_toIntS: function 61 -/
def laws_toIntS.l0 : Nat → List Int → List Int → Int → Option (List Int)
 | 0, _, _, _ => none
 | k + 1, x0, x3, x4 => if x4 < (x0.length : Int) then (if 0 ≤ x4 then (if x4 < (x3.length : Int) then (laws_toIntS.l0 k x0 (x3.set (x4 : Int).toNat (rd x0 x4)) (wrap64 (x4 + 1))) else (none)) else (none)) else (some x3)
def laws_toIntS.f (k : Nat) (l0 : List Int) : Option (List Int) := if 0 ≤ (l0.length : Int) then (if ((l0.length : Int) : Int).toNat ≤ 35184372088832 then (laws_toIntS.l0 k l0 (List.replicate ((l0.length : Int) : Int).toNat 0) 0) else (none)) else (none)
theorem laws_toIntS.mono_l : ∀ k, (∀ y0 y1 y2, LeO (laws_toIntS.l0 k y0 y1 y2) (laws_toIntS.l0 (k + 1) y0 y1 y2))
 | 0 => fun _ _ _ r h => by simp [laws_toIntS.l0] at h
 | k + 1 => by
  have ih0 := laws_toIntS.mono_l k
  ·intro y0 y1 y2
   unfold laws_toIntS.l0
   exact zm_
theorem laws_toIntS.mono : ∀ a0 k, LeO (laws_toIntS.f k a0) (laws_toIntS.f (k + 1) a0) := by
 intro a0 k
 have ih0 := laws_toIntS.mono_l k
 unfold laws_toIntS.f
 exact zm_
set_option maxHeartbeats 8000000 in
set_option maxRecDepth 100000 in
theorem laws_toIntS.calls (k : Nat) (A0 : Option Addr) (c0 : Nat) (l0 : List Int) (r : List Int) (w : World) (hr0 : Kd.C (Kd.int .i64) w A0 l0.length l0) (hc0 : l0.length ≤ c0) (h : laws_toIntS.f k l0 = some r) :
  Calls Try.prog 61 #[.slice A0 l0.length c0] w fun e w' => ∃ v0_ : Value, e = .returned (v0_) ∧ Kd.R (Kd.int .i64) 3 w' w.heap.size (fun _ => True) v0_ r ∧ Below w.heap.size w w' := by
 have HR0 := q_ hr0
 have HC0 := q_ hc0
 clear hr0 hc0
 have HB := q_ (Below.refl w.heap.size w)
 have H := h; clear h
 unfold laws_toIntS.f at H
 replace H := ktn_ H; obtain ⟨c2b0, c2b1, H⟩ := H
 replace H := ktn_ H; obtain ⟨c3b0, c3b1, H⟩ := H
 obtain ⟨y261, hy_⟩ : ∃ y_ : List Int, y_ = (List.replicate ((l0.length : Int) : Int).toNat 0) := ⟨_, rfl⟩
 replace H : (laws_toIntS.l0 k l0 y261 0) = some r := z3_
 have Ny261 := q_ hy_
 clear hy_
 have H' := q_ H
 clear H
 go_enter Try.func61, Try.ntmps61
 go_wp2_with (first | ((with_reducible refine gate_dst (N := 7) rfl ?_); refine Kd.R_make (Kd.int .i64) _ 3 rfl (N := 7) rfl 23 _ _ rfl (l0.length : Int) rfl rfl Try.underlying23 (.int .i64 0) 8 info3 rfl (by decide) (by omega) 0 (ok := fun _ => True) (okp := fun _ => True) rfl (fun _ hk => hk) trivial (of_decide_eq_true z2_) (Nat.le_trans (Nat.mul_le_mul_right _ (of_decide_eq_true z2_ : (l0.length : Int).toNat ≤ 35184372088832)) (by omega)) (Below.refl _ _) (Nat.le_refl _) ?_; intro v262 w4 ho5 hb hg_ hnew_; clear hg_ hnew_; (first | rw [← Ny261.out] at ho5 | (simp only [Int.reduceToNat] at ho5; rw [← Ny261.out] at ho5)); have HO263 := q_ (Kd.R_lower ho5 (below_size cb_)); replace HB := hb_ hb; clear hb ho5))
 go_loopg [4] k (fun kq v4 w' => ∃ (x3_1 : List Int) (x4_1 : Int), v4 = .int .i64 x4_1 ∧ Aside0 (laws_toIntS.l0 kq l0 x3_1 x4_1 = some r) ∧ Aside0 (kq ≤ k) ∧ Aside0 (Kd.R (Kd.int .i64) 3 w' w.heap.size (fun _ => True) v262 x3_1) ∧ Aside0 (Below w.heap.size w w'))
 case atStart => exact ⟨(y261), (0), z4_, H', ⟨Nat.le_refl _⟩, ⟨by (with_reducible repeat (first | apply Kd.R_alloc | apply Kd.R_drewN | apply Kd.R_drew)); exact HO263.out⟩, ⟨cb_⟩⟩
 case round =>
  clear H'
  try clear c2
  try clear c2b0
  try clear c2b1
  try clear p2
  try clear c3
  try clear c3b0
  try clear c3b1
  obtain ⟨x3_1, x4_1, rfl, HA, HK1, HO_3, HB⟩ := hrel
  obtain ⟨k1, rfl, H⟩ := rn_ (k := gk) HA (by rintro rfl; simp only [laws_toIntS.l0])
  clear HA
  simp only [laws_toIntS.l0] at H
  replace H := kd_ H; rcases H with ⟨c6b0, H⟩ | ⟨c6b0, H⟩
  ·replace H := kdn_ H; obtain ⟨c7b0, H⟩ := H
   replace H := kdn_ H; obtain ⟨c8b0, H⟩ := H
   obtain ⟨y265, hy_⟩ : ∃ y_ : List Int, y_ = (x3_1.set (x4_1 : Int).toNat (rd l0 x4_1)) := ⟨_, rfl⟩
   replace H : (laws_toIntS.l0 k1 l0 y265 (wrap64 (x4_1 + 1))) = some r := z3_
   have Ny265 := q_ hy_
   clear hy_
   have H' := q_ H
   clear H
   have p264 : 0 ≤ (x4_1 : Int) := of_decide_eq_true z2_
   have q264 : x4_1 < (l0.length : Int) := of_decide_eq_true z2_
   obtain ⟨ad264, e264, hx264_0⟩ := Kd.at_int HR0.out x4_1 p264 q264
   cases e264
   replace hx264_0 := up_ HB hx264_0
   replace p264 := eq_true p264
   replace q264 := eq_true q264
   have p9 : 0 ≤ (x4_1 : Int) := of_decide_eq_true z2_
   have q9 : (x4_1 : Int) < ((x3_1.length : Int) : Int) := of_decide_eq_true z2_
   obtain ⟨go9, co9, eo9, gb9, gl9, cl9, HG9⟩ := Kd.R_form HO_3.out (by omega)
   (first | cases eo9 | (injection eo9 with ea_ en_ ec_; (first | subst ea_ | (injection ea_ with ea_; subst ea_)); subst ec_; clear en_))
   have GB9 := q_ gb9
   have GG9 := q_ HG9
   clear gb9 gl9 HG9
   obtain ⟨hx9_0, hf9_0⟩ := Kd.R_celln 0 HO_3.out (x4_1 : Int) p9 q9
   replace p9 := eq_true p9
   replace q9 := eq_true q9
   have HP10 := Kd.R_putg HO_3.out (x4_1 : Int) (rd l0 x4_1)
   go_wp2_with (first | ((with_reducible refine gate_store (t := 3) (p := 20) rfl ?_); refine store_event (t := 3) (p := 20) (v := ?vo_w11) (w1 := (wr.setCell ⟨go9, (x4_1 : Int).toNat, none⟩ (.int .i64 (rd l0 x4_1)))) ?hg ?ho ?hn ?hr ?_; (case ho => rfl); (case hg => rfl); (case hn => rfl); (case hr => exact z92_); intro w11 hw; have hg : wr.grownBy w11 (some go9) := (by rw [hw]; exact HP10.2); have hp_ : Kd.R (Kd.int .i64) 3 w11 w.heap.size (fun _ => True) (.slice (some ⟨go9, 0, none⟩) x3_1.length co9) y265 := (by rw [hw, Ny265.out]; exact HP10.1); clear HP10; replace HO_3 := q_ (hp_); replace HB := q_ ((by rw [hw]; exact below_set (HB.out) GB9.out : Below w.heap.size w w11)); clear hg hw hp_))
   go_roundg k1
   case measure => have := HK1.out; omega
   case rel => exact ⟨(y265), (wrap64 (x4_1 + 1)), z4_, H', ⟨z37_⟩, ⟨z7_⟩, ⟨cb_⟩⟩
  ·obtain rfl := si_ H
   go_wp2
   go_ret
   exact ⟨_, z1_, z7_, cb_⟩

/-! ### laws_toMsg: function 100 -/
def laws_toMsg.f (a0_0 : Int) (a0_1 : Int) (a0_2 : Int) : Option (Int × Int × Int) := some (a0_0, a0_1, a0_2)
set_option maxHeartbeats 8000000 in
set_option maxRecDepth 100000 in
theorem laws_toMsg.calls (a0_0 : Int) (a0_1 : Int) (a0_2 : Int) (r1 : Int) (r2 : Int) (r3 : Int) (w : World) (h : laws_toMsg.f a0_0 a0_1 a0_2 = some (r1, r2, r3)) :
  Calls Try.prog 100 #[.agg #[.int .i64 a0_0, .int .i64 a0_1, .int .i64 a0_2]] w fun e w' => e = .returned (.agg #[.int .i64 r1, .int .i64 r2, .int .i64 r3]) ∧ Below w.heap.size w w' := by
 have hu109 := Try.underlying109
 have hu72 := Try.underlying72
 have HB := q_ (Below.refl w.heap.size w)
 have H := h; clear h
 unfold laws_toMsg.f at H
 simp only [Option.some.injEq, Prod.mk.injEq] at H
 obtain ⟨rfl, rfl, rfl⟩ := H
 go_enter Try.func100, Try.ntmps100
 go_wp2_with (first | ((with_reducible refine gate_dst (N := 1) rfl ?_); refine box_event ?hg (N := 1) ?hd (cs := #[.int .i64 a0_0, .int .i64 a0_1, .int .i64 a0_2]) (t := 109) ?hr ?_; (case hd => rfl); (case hg => rfl); (case hr => exact z92_); intro gb266 hg w2 hbox hb; have BK266 := q_ (hbox); have GW266 := ge_ hg; have GE266 := ge_ hg; replace HB := hb_ hb; clear hb hbox hg) | ((with_reducible refine gate_dst (N := 2) rfl ?_); refine box_event ?hg (N := 2) ?hd (cs := #[.int .i64 0, .int .i64 0, .int .i64 0]) (t := 72) ?hr ?_; (case hd => rfl); (case hg => rfl); (case hr => exact z92_); intro gb267 hg w3 hbox hb; have BK267 := q_ (hbox); have GW267 := ge_ hg; have GE267 := ge_ hg; replace HB := hb_ hb; have NB266_267 := nl_ hg BK266; have NB267_266 := nr_ hg BK266; replace BK266 := rb_ BK266 hb; clear hb hbox hg) | ((with_reducible refine gate_dst (N := 3) rfl ?_); refine box_event ?hg (N := 3) ?hd (cs := #[.int .i64 0, .int .i64 0, .int .i64 0]) (t := 72) ?hr ?_; (case hd => rfl); (case hg => rfl); (case hr => exact z92_); intro gb268 hg w4 hbox hb; have BK268 := q_ (hbox); have GW268 := ge_ hg; have GE268 := ge_ hg; replace HB := hb_ hb; have NB266_268 := nl_ hg BK266; have NB268_266 := nr_ hg BK266; replace BK266 := rb_ BK266 hb; have NB267_268 := nl_ hg BK267; have NB268_267 := nr_ hg BK267; replace BK267 := rb_ BK267 hb; clear hb hbox hg; have hnb5 := NB266_267.out; have hnc5 := NB267_266.out; have hnb6 := NB266_268.out; have hnc6 := NB268_266.out; obtain ⟨hz_, hz_, hz_, hz_, hz_, hz_⟩ := cs3_ BK266.out; have hnb8 := NB268_267.out; have hnc8 := NB267_268.out; obtain ⟨hz_, hz_, hz_, hz_, hz_, hz_⟩ := cs3_ BK268.out; obtain ⟨hz_, hz_, hz_, hz_, hz_, hz_⟩ := cs3_ BK267.out))
 refine bodyPost_ret (results_cell_row rfl _ _ gb267 72 #[.int .i64 a0_0, .int .i64 a0_1, .int .i64 a0_2] (0, 0) _ rfl (by (with_reducible repeat (first | refine blk_drewN ?_ _ | refine blk_drew ?_ | refine blk_alloc ?_ _)); refine blk_put (cs := #[.int .i64 a0_0, .int .i64 a0_1, .int .i64 0]) ?_ 2 _ rfl; (with_reducible repeat (first | refine blk_drewN ?_ _ | refine blk_drew ?_ | refine blk_alloc ?_ _)); refine blk_put (cs := #[.int .i64 a0_0, .int .i64 0, .int .i64 0]) ?_ 1 _ rfl; (with_reducible repeat (first | refine blk_drewN ?_ _ | refine blk_drew ?_ | refine blk_alloc ?_ _)); refine blk_put (cs := #[.int .i64 0, .int .i64 0, .int .i64 0]) ?_ 0 _ rfl; (with_reducible repeat (first | refine blk_drewN ?_ _ | refine blk_drew ?_ | refine blk_alloc ?_ _)); refine blk_far ?_ NB267_268.out _; (with_reducible repeat (first | refine blk_drewN ?_ _ | refine blk_drew ?_ | refine blk_alloc ?_ _)); refine blk_far ?_ NB267_268.out _; (with_reducible repeat (first | refine blk_drewN ?_ _ | refine blk_drew ?_ | refine blk_alloc ?_ _)); refine blk_far ?_ NB267_268.out _; (with_reducible repeat (first | refine blk_drewN ?_ _ | refine blk_drew ?_ | refine blk_alloc ?_ _)); exact BK267.out) Try.underlying72 rfl (by kernel_rfl)) rfl ?_
 exact ⟨z1_, cb_⟩

/-! ### laws_toMsgS: function 63 -/
def laws_toMsgS.l0 : Nat → List (S109) → List (S72) → Int → Option ((List (S72)))
 | 0, _, _, _ => none
 | k + 1, x0, x3, x4 => if x4 < (x0.length : Int) then (if 0 ≤ x4 then ((laws_toMsg.f ((rd_T109 x0 x4).f0) ((rd_T109 x0 x4).f1) ((rd_T109 x0 x4).f2)).bind fun bt273 => (if x4 < (x3.length : Int) then (laws_toMsgS.l0 k x0 (x3.set (x4 : Int).toNat (⟨bt273.1, bt273.2.1, bt273.2.2⟩ : S72)) (wrap64 (x4 + 1))) else (none))) else (none)) else (some x3)
def laws_toMsgS.f (k : Nat) (l0 : List (S109)) : Option ((List (S72))) := if 0 ≤ (l0.length : Int) then (if ((l0.length : Int) : Int).toNat ≤ 11728124029610 then (laws_toMsgS.l0 k l0 (List.replicate ((l0.length : Int) : Int).toNat z72) 0) else (none)) else (none)
theorem laws_toMsgS.mono_l : ∀ k, (∀ y0 y1 y2, LeO (laws_toMsgS.l0 k y0 y1 y2) (laws_toMsgS.l0 (k + 1) y0 y1 y2))
 | 0 => fun _ _ _ r h => by simp [laws_toMsgS.l0] at h
 | k + 1 => by
  have ih0 := laws_toMsgS.mono_l k
  ·intro y0 y1 y2
   unfold laws_toMsgS.l0
   exact zm_
theorem laws_toMsgS.mono : ∀ a0 k, LeO (laws_toMsgS.f k a0) (laws_toMsgS.f (k + 1) a0) := by
 intro a0 k
 have ih0 := laws_toMsgS.mono_l k
 unfold laws_toMsgS.f
 exact zm_
set_option maxHeartbeats 8000000 in
set_option maxRecDepth 100000 in
theorem laws_toMsgS.calls (k : Nat) (A0 : Option Addr) (c0 : Nat) (l0 : List (S109)) (r : List (S72)) (w : World) (hr0 : Kd.C k109 w A0 l0.length l0) (hc0 : l0.length ≤ c0) (h : laws_toMsgS.f k l0 = some r) :
  Calls Try.prog 63 #[.slice A0 l0.length c0] w fun e w' => ∃ v0_ : Value, e = .returned (v0_) ∧ Kd.R k72 72 w' w.heap.size (fun _ => True) v0_ r ∧ Below w.heap.size w w' := by
 have hu109 := Try.underlying109
 have hu72 := Try.underlying72
 have HR0 := q_ hr0
 have HC0 := q_ hc0
 clear hr0 hc0
 have HB := q_ (Below.refl w.heap.size w)
 have H := h; clear h
 unfold laws_toMsgS.f at H
 replace H := ktn_ H; obtain ⟨c2b0, c2b1, H⟩ := H
 replace H := ktn_ H; obtain ⟨c3b0, c3b1, H⟩ := H
 obtain ⟨y269, hy_⟩ : ∃ y_ : List (S72), y_ = (List.replicate ((l0.length : Int) : Int).toNat z72) := ⟨_, rfl⟩
 replace H : (laws_toMsgS.l0 k l0 y269 0) = some r := z3_
 have Ny269 := q_ hy_
 clear hy_
 have H' := q_ H
 clear H
 go_enter Try.func63, Try.ntmps63
 go_wp2_with (first | ((with_reducible refine gate_dst (N := 7) rfl ?_); refine Kd.R_make k72 _ 72 rfl (N := 7) rfl 32 _ _ rfl (l0.length : Int) rfl rfl Try.underlying32 (.agg #[(.int .i64 0), (.int .i64 0), (.int .i64 0)]) 24 info72 rfl (by decide) (by omega) z72 (ok := fun _ => True) (okp := fun _ => True) (k72_mkM _ _ _ z72 ) (fun _ hk => hk) trivial (of_decide_eq_true z2_) (Nat.le_trans (Nat.mul_le_mul_right _ (of_decide_eq_true z2_ : (l0.length : Int).toNat ≤ 11728124029610)) (by omega)) (Below.refl _ _) (Nat.le_refl _) ?_; intro v270 w4 ho5 hb hg_ hnew_; clear hg_ hnew_; (first | rw [← Ny269.out] at ho5 | (simp only [Int.reduceToNat] at ho5; rw [← Ny269.out] at ho5)); have HO271 := q_ (Kd.R_lower ho5 (below_size cb_)); replace HB := hb_ hb; clear hb ho5))
 go_loopg [4] k (fun kq v4 w' => ∃ (x3_1 : List (S72)) (x4_1 : Int), v4 = .int .i64 x4_1 ∧ Aside0 (laws_toMsgS.l0 kq l0 x3_1 x4_1 = some r) ∧ Aside0 (kq ≤ k) ∧ Aside0 (Kd.R k72 72 w' w.heap.size (fun _ => True) v270 x3_1) ∧ Aside0 (Below w.heap.size w w'))
 case atStart => exact ⟨(y269), (0), z4_, H', ⟨Nat.le_refl _⟩, ⟨by (with_reducible repeat (first | apply Kd.R_alloc | apply Kd.R_drewN | apply Kd.R_drew)); exact HO271.out⟩, ⟨cb_⟩⟩
 case round =>
  clear H'
  try clear c2
  try clear c2b0
  try clear c2b1
  try clear p2
  try clear c3
  try clear c3b0
  try clear c3b1
  obtain ⟨x3_1, x4_1, rfl, HA, HK1, HO_3, HB⟩ := hrel
  obtain ⟨k1, rfl, H⟩ := rn_ (k := gk) HA (by rintro rfl; simp only [laws_toMsgS.l0])
  clear HA
  simp only [laws_toMsgS.l0] at H
  replace H := kd_ H; rcases H with ⟨c6b0, H⟩ | ⟨c6b0, H⟩
  ·replace H := kdn_ H; obtain ⟨c7b0, H⟩ := H
   replace H := bi_ H; obtain ⟨⟨t273, t274, t275⟩, A8, H⟩ := H
   (try dsimp only at H)
   replace H := kdn_ H; obtain ⟨c9b0, H⟩ := H
   obtain ⟨y276, hy_⟩ : ∃ y_ : List (S72), y_ = (x3_1.set (x4_1 : Int).toNat (⟨t273, t274, t275⟩ : S72)) := ⟨_, rfl⟩
   replace H : (laws_toMsgS.l0 k1 l0 y276 (wrap64 (x4_1 + 1))) = some r := z3_
   have Ny276 := q_ hy_
   clear hy_
   have H' := q_ H
   clear H
   have p272 : 0 ≤ (x4_1 : Int) := of_decide_eq_true z2_
   have q272 : x4_1 < (l0.length : Int) := of_decide_eq_true z2_
   obtain ⟨ad272, e272, hx272_0, hx272_1, hx272_2⟩ := at_T109 HR0.out x4_1 p272 q272
   cases e272
   replace hx272_0 := up_ HB hx272_0
   replace hx272_1 := up_ HB hx272_1
   replace hx272_2 := up_ HB hx272_2
   replace p272 := eq_true p272
   replace q272 := eq_true q272
   go_wp2_with (first | ((with_reducible refine gate_callee (f := 100) rfl ?_); refine goesL_ (some 20) rfl rfl Try.func100 (by kernel_rfl) rfl #[.agg #[.int .i64 ((rd_T109 l0 x4_1).f0), .int .i64 ((rd_T109 l0 x4_1).f1), .int .i64 ((rd_T109 l0 x4_1).f2)]] rfl z0_ ?_; (with_reducible refine (laws_toMsg.calls ((rd_T109 l0 x4_1).f0) ((rd_T109 l0 x4_1).f1) ((rd_T109 l0 x4_1).f2) t273 t274 t275 _ A8.out).mono ?_); rintro e w11 ⟨rfl, hb⟩; refine ⟨_, rfl, ?_⟩; replace HO_3 := q_ (Kd.R_below z7_ hb); replace HB := hb_ hb; (try clear hb); (try clear hb2); (try clear hk); (try clear hi); have p10 : 0 ≤ (x4_1 : Int) := of_decide_eq_true z2_; have q10 : (x4_1 : Int) < ((x3_1.length : Int) : Int) := of_decide_eq_true z2_; obtain ⟨go10, co10, eo10, gb10, gl10, cl10, HG10⟩ := Kd.R_form HO_3.out (by omega); (first | cases eo10 | (injection eo10 with ea_ en_ ec_; (first | subst ea_ | (injection ea_ with ea_; subst ea_)); subst ec_; clear en_)); have GB10 := q_ gb10; have GG10 := q_ HG10; clear gb10 gl10 HG10; obtain ⟨ce10, hcl10, hM10, hcc10, hfr10⟩ := Kd.R_elem HO_3.out z72 (x4_1 : Int) p10 q10; obtain rfl := k72_openM hM10; have hx10_0 : w11.cell? ⟨go10, (x4_1 : Int).toNat * 3, none⟩ = some (.int .i64 ((rd_T72 x3_1 x4_1).f0)) := hcc10 0 _ rfl; have hx10_1 : w11.cell? ⟨go10, (x4_1 : Int).toNat * 3 + 1, none⟩ = some (.int .i64 ((rd_T72 x3_1 x4_1).f1)) := hcc10 1 _ rfl; have hx10_2 : w11.cell? ⟨go10, (x4_1 : Int).toNat * 3 + 2, none⟩ = some (.int .i64 ((rd_T72 x3_1 x4_1).f2)) := hcc10 2 _ rfl; have hf10_0 : w11.frozen? ⟨go10, (x4_1 : Int).toNat * 3, none⟩ = false := hfr10 0; have hf10_1 : w11.frozen? ⟨go10, (x4_1 : Int).toNat * 3 + 1, none⟩ = false := hfr10 1; have hf10_2 : w11.frozen? ⟨go10, (x4_1 : Int).toNat * 3 + 2, none⟩ = false := hfr10 2; clear hcl10 hcc10 hfr10 hM10; replace p10 := eq_true p10; replace q10 := eq_true q10; have HX12 := q_ (show Kd.R k72 72 w11 w.heap.size (fun _ => True) (.slice (some ⟨go10, 0, none⟩) x3_1.length co10) x3_1 from z7_); obtain ⟨ce12, hcl12, hM12, hcc12, hfr12⟩ := Kd.R_elem HX12.out z72 (x4_1 : Int) (of_decide_eq_true z2_) z87_; obtain rfl := k72_openM hM12; have HP12 := Kd.R_seg HX12.out (x4_1 : Int) (of_decide_eq_true z2_) z87_ (seg := [.int .i64 t273, .int .i64 t274, .int .i64 t275]) (j := 0) hcl12 hcc12 (show 3 ≤ 3 from by decide) (x' := (⟨t273, t274, t275⟩ : S72)) (k72_mkM _ _ _ (⟨t273, t274, t275⟩ : S72) ) (fun _ hk => hk); have hx12_0 := hcc12 0 _ rfl; (try simp only [show (k72).sz = 3 from rfl, Nat.mul_one, Nat.add_zero] at hx12_0); have hf12_0 := hfr12 0; (try simp only [show (k72).sz = 3 from rfl, Nat.mul_one, Nat.add_zero] at hf12_0); have hx12_1 := hcc12 1 _ rfl; (try simp only [show (k72).sz = 3 from rfl, Nat.mul_one, Nat.add_zero] at hx12_1); have hf12_1 := hfr12 1; (try simp only [show (k72).sz = 3 from rfl, Nat.mul_one, Nat.add_zero] at hf12_1); have hx12_2 := hcc12 2 _ rfl; (try simp only [show (k72).sz = 3 from rfl, Nat.mul_one, Nat.add_zero] at hx12_2); have hf12_2 := hfr12 2; (try simp only [show (k72).sz = 3 from rfl, Nat.mul_one, Nat.add_zero] at hf12_2); clear hcl12 hcc12 hfr12 hM12) | ((with_reducible refine gate_store (t := 72) (p := 21) rfl ?_); refine store_event (t := 72) (p := 21) (v := ?vo_w13) (w1 := (((w11.setCell ⟨go10, (x4_1 : Int).toNat * 3, none⟩ (.int .i64 t273)).setCell ⟨go10, (x4_1 : Int).toNat * 3 + 1, none⟩ (.int .i64 t274)).setCell ⟨go10, (x4_1 : Int).toNat * 3 + 2, none⟩ (.int .i64 t275))) ?hg ?ho ?hn ?hr ?_; (case ho => rfl); (case hg => rfl); (case hn => rfl); (case hr => exact z92_); intro w13 hw; have hg : w11.grownBy w13 (some go10) := z86_; have hp_ : Kd.R k72 72 w13 w.heap.size (fun _ => True) (.slice (some ⟨go10, 0, none⟩) x3_1.length co10) y276 := (by rw [hw, Ny276.out]; exact HP12.1); clear HP12; replace HO_3 := q_ (hp_); replace HB := q_ ((by rw [hw]; exact below_set (below_set (below_set (HB.out) GB10.out) GB10.out) GB10.out : Below w.heap.size w w13)); clear hg hw hp_))
   go_roundg k1
   case measure => have := HK1.out; omega
   case rel => exact ⟨(y276), (wrap64 (x4_1 + 1)), z4_, H', ⟨z37_⟩, ⟨z7_⟩, ⟨cb_⟩⟩
  ·obtain rfl := si_ H
   go_wp2
   go_ret
   exact ⟨_, z1_, z7_, cb_⟩

mutual
def laws_toTreeS.l0 : Nat → List (S27) → List (S34) → Int → Option ((List (S34)))
 | 0, _, _, _ => none
 | k + 1, x0, x3, x4 => if x4 < (x0.length : Int) then (if 0 ≤ x4 then ((laws_toTree.f k ((rd_T27 x0 x4).f0) ((rd_T27 x0 x4).f1) ((rd_T27 x0 x4).f2) ((rd_T27 x0 x4).f3) ((rd_T27 x0 x4).f4)).bind fun bt281 => (if x4 < (x3.length : Int) then (laws_toTreeS.l0 k x0 (x3.set (x4 : Int).toNat (⟨bt281.1, bt281.2.1, bt281.2.2.1, bt281.2.2.2.1, bt281.2.2.2.2⟩ : S34)) (wrap64 (x4 + 1))) else (none))) else (none)) else (some x3)
def laws_toTreeS.f : Nat → List (S27) → Option ((List (S34)))
 | 0, _ => none
 | k + 1, l0 => if 0 ≤ (l0.length : Int) then (if ((l0.length : Int) : Int).toNat ≤ 2706490160679 then (laws_toTreeS.l0 k l0 (List.replicate ((l0.length : Int) : Int).toNat z34) 0) else (none)) else (none)
def laws_toTree.f : Nat → Bool → List (S107) → List Int → List (S27) → List (S109) → Option (Bool × (List (S92)) × List Int × (List (S34)) × (List (S72)))
 | 0, _, _, _, _, _ => none
 | k + 1, a0_0, l0_1, l0_2, l0_3, l0_4 => (laws_toPairS.f k l0_1).bind fun t298 => ((laws_toIntS.f k l0_2).bind fun t301 => ((laws_toTreeS.f k l0_3).bind fun t304 => ((laws_toMsgS.f k l0_4).bind fun t307 => (some (a0_0, t298, t301, t304, t307)))))
end
theorem laws_toTreeS.all_mono : ∀ k, (∀ y0, LeO (laws_toTreeS.f k y0) (laws_toTreeS.f (k + 1) y0)) ∧ (∀ y0 y1 y2, LeO (laws_toTreeS.l0 k y0 y1 y2) (laws_toTreeS.l0 (k + 1) y0 y1 y2)) ∧ (∀ y0 y1 y2 y3 y4, LeO (laws_toTree.f k y0 y1 y2 y3 y4) (laws_toTree.f (k + 1) y0 y1 y2 y3 y4))
 | 0 => ⟨fun _ r h => by simp [laws_toTreeS.f] at h, fun _ _ _ r h => by simp [laws_toTreeS.l0] at h, fun _ _ _ _ _ r h => by simp [laws_toTree.f] at h⟩
 | k + 1 => by
  obtain ⟨ih0, ih1, ih2⟩ := laws_toTreeS.all_mono k
  refine ⟨?_, ?_, ?_⟩
  ·intro y0
   unfold laws_toTreeS.f
   have m0 := @laws_toIntS.mono
   have m1 := @laws_toMsgS.mono
   have m2 := @laws_toPairS.mono
   exact zm_
  ·intro y0 y1 y2
   unfold laws_toTreeS.l0
   have m0 := @laws_toIntS.mono
   have m1 := @laws_toMsgS.mono
   have m2 := @laws_toPairS.mono
   exact zm_
  ·intro y0 y1 y2 y3 y4
   unfold laws_toTree.f
   have m0 := @laws_toIntS.mono
   have m1 := @laws_toMsgS.mono
   have m2 := @laws_toPairS.mono
   exact zm_
theorem laws_toTreeS.mono : ∀ a0 k, LeO (laws_toTreeS.f k a0) (laws_toTreeS.f (k + 1) a0) := fun a0 k => (laws_toTreeS.all_mono k).1 a0
theorem laws_toTreeS.mono_l0 : ∀ k, ∀ y0 y1 y2, LeO (laws_toTreeS.l0 k y0 y1 y2) (laws_toTreeS.l0 (k + 1) y0 y1 y2) := fun k => (laws_toTreeS.all_mono k).2.1
theorem laws_toTree.mono : ∀ a0 a1 a2 a3 a4 k, LeO (laws_toTree.f k a0 a1 a2 a3 a4) (laws_toTree.f (k + 1) a0 a1 a2 a3 a4) := fun a0 a1 a2 a3 a4 k => (laws_toTreeS.all_mono k).2.2 a0 a1 a2 a3 a4
/-! ### laws_toTreeS: function 62 -/
set_option maxHeartbeats 8000000 in
set_option maxRecDepth 100000 in
theorem laws_toTreeS.step (k : Nat) (ih : ∀ m_, m_ < k → ∀ (A0 : Option Addr) (c0 : Nat) (l0 : List (S27)) (r : List (S34)) (w : World) (hr0 : Kd.C k27 w A0 l0.length l0) (hc0 : l0.length ≤ c0) (h : laws_toTreeS.f m_ l0 = some r),
  Calls Try.prog 62 #[.slice A0 l0.length c0] w fun e w' => ∃ v0_ : Value, e = .returned (v0_) ∧ Kd.R k34 34 w' w.heap.size (fun _ => True) v0_ r ∧ Below w.heap.size w w') (ih_laws_toTree : ∀ m_, m_ < k → ∀ (a0_0 : Bool) (A0_1 : Option Addr) (c0_1 : Nat) (l0_1 : List (S107)) (A0_2 : Option Addr) (c0_2 : Nat) (l0_2 : List Int) (A0_3 : Option Addr) (c0_3 : Nat) (l0_3 : List (S27)) (A0_4 : Option Addr) (c0_4 : Nat) (l0_4 : List (S109)) (r1 : Bool) (r2 : List (S92)) (r3 : List Int) (r4 : List (S34)) (r5 : List (S72)) (w : World) (hr0_1 : Kd.C k107 w A0_1 l0_1.length l0_1) (hc0_1 : l0_1.length ≤ c0_1) (hr0_2 : Kd.C (Kd.int .i64) w A0_2 l0_2.length l0_2) (hc0_2 : l0_2.length ≤ c0_2) (hr0_3 : Kd.C k27 w A0_3 l0_3.length l0_3) (hc0_3 : l0_3.length ≤ c0_3) (hr0_4 : Kd.C k109 w A0_4 l0_4.length l0_4) (hc0_4 : l0_4.length ≤ c0_4) (h : laws_toTree.f m_ a0_0 l0_1 l0_2 l0_3 l0_4 = some (r1, r2, r3, r4, r5)),
  Calls Try.prog 17 #[.agg #[.bool a0_0, .slice A0_1 l0_1.length c0_1, .slice A0_2 l0_2.length c0_2, .slice A0_3 l0_3.length c0_3, .slice A0_4 l0_4.length c0_4]] w fun e w' => ∃ v1_ v2_ v3_ v4_ : Value, e = .returned (.agg #[.bool r1, v1_, v2_, v3_, v4_]) ∧ Kd.R k92 92 w' w.heap.size (fun _ => True) v1_ r2 ∧ Kd.R (Kd.int .i64) 3 w' w.heap.size (fun _ => True) v2_ r3 ∧ Kd.R k34 34 w' w.heap.size (fun k_ => some k_ ≠ (v1_ : Value).ownBlock ∧ some k_ ≠ (v2_ : Value).ownBlock ∧ some k_ ≠ (v4_ : Value).ownBlock) v3_ r4 ∧ Kd.R k72 72 w' w.heap.size (fun _ => True) v4_ r5 ∧ Below w.heap.size w w') : ∀ (A0 : Option Addr) (c0 : Nat) (l0 : List (S27)) (r : List (S34)) (w : World) (hr0 : Kd.C k27 w A0 l0.length l0) (hc0 : l0.length ≤ c0) (h : laws_toTreeS.f k l0 = some r),
  Calls Try.prog 62 #[.slice A0 l0.length c0] w fun e w' => ∃ v0_ : Value, e = .returned (v0_) ∧ Kd.R k34 34 w' w.heap.size (fun _ => True) v0_ r ∧ Below w.heap.size w w' := by
 intro A0 c0 l0 r w hr0 hc0 h
 cases k with
 | zero => exact absurd h (by simp [laws_toTreeS.f])
 | succ k =>
 simp only [laws_toTreeS.f] at h
 have hu27 := Try.underlying27
 have hu34 := Try.underlying34
 have HR0 := q_ hr0
 have HC0 := q_ hc0
 clear hr0 hc0
 have HB := q_ (Below.refl w.heap.size w)
 have H := h; clear h
 replace H := ktn_ H; obtain ⟨c2b0, c2b1, H⟩ := H
 replace H := ktn_ H; obtain ⟨c3b0, c3b1, H⟩ := H
 obtain ⟨y277, hy_⟩ : ∃ y_ : List (S34), y_ = (List.replicate ((l0.length : Int) : Int).toNat z34) := ⟨_, rfl⟩
 replace H : (laws_toTreeS.l0 k l0 y277 0) = some r := z3_
 have Ny277 := q_ hy_
 clear hy_
 have H' := q_ H
 clear H
 go_enter Try.func62, Try.ntmps62
 go_wp2_with (first | ((with_reducible refine gate_dst (N := 7) rfl ?_); refine Kd.R_make k34 _ 34 rfl (N := 7) rfl 31 _ _ rfl (l0.length : Int) rfl rfl Try.underlying31 (.agg #[(.bool false), (.slice none 0 0), (.slice none 0 0), (.slice none 0 0), (.slice none 0 0)]) 104 info34 rfl (by decide) (by omega) z34 (ok := fun _ => True) (okp := fun _ => True) (k34_mkM _ _ _ z34 (Kd.R_nil _ _ _ _ _) (Kd.R_nil _ _ _ _ _) (Kd.R_nil _ _ _ _ _) (Kd.R_nil _ _ _ _ _)) (fun _ hk => hk) trivial (of_decide_eq_true z2_) (Nat.le_trans (Nat.mul_le_mul_right _ (of_decide_eq_true z2_ : (l0.length : Int).toNat ≤ 2706490160679)) (by omega)) (Below.refl _ _) (Nat.le_refl _) ?_; intro v278 w4 ho5 hb hg_ hnew_; clear hg_ hnew_; (first | rw [← Ny277.out] at ho5 | (simp only [Int.reduceToNat] at ho5; rw [← Ny277.out] at ho5)); have HO279 := q_ (Kd.R_lower ho5 (below_size cb_)); replace HB := hb_ hb; clear hb ho5))
 go_loopg [4] k (fun kq v4 w' => ∃ (x3_1 : List (S34)) (x4_1 : Int), v4 = .int .i64 x4_1 ∧ Aside0 (laws_toTreeS.l0 kq l0 x3_1 x4_1 = some r) ∧ Aside0 (kq ≤ k) ∧ Aside0 (Kd.R k34 34 w' w.heap.size (fun _ => True) v278 x3_1) ∧ Aside0 (Below w.heap.size w w'))
 case atStart => exact ⟨(y277), (0), z4_, H', ⟨Nat.le_refl _⟩, ⟨by (with_reducible repeat (first | apply Kd.R_alloc | apply Kd.R_drewN | apply Kd.R_drew)); exact HO279.out⟩, ⟨cb_⟩⟩
 case round =>
  clear H'
  try clear c2
  try clear c2b0
  try clear c2b1
  try clear p2
  try clear c3
  try clear c3b0
  try clear c3b1
  obtain ⟨x3_1, x4_1, rfl, HA, HK1, HO_3, HB⟩ := hrel
  obtain ⟨k1, rfl, H⟩ := rn_ (k := gk) HA (by rintro rfl; simp only [laws_toTreeS.l0])
  clear HA
  simp only [laws_toTreeS.l0] at H
  replace H := kd_ H; rcases H with ⟨c6b0, H⟩ | ⟨c6b0, H⟩
  ·replace H := kdn_ H; obtain ⟨c7b0, H⟩ := H
   replace H := bi_ H; obtain ⟨⟨t281, t282, t285, t288, t291⟩, A8, H⟩ := H
   (try dsimp only at H)
   replace H := kdn_ H; obtain ⟨c9b0, H⟩ := H
   obtain ⟨y294, hy_⟩ : ∃ y_ : List (S34), y_ = (x3_1.set (x4_1 : Int).toNat (⟨t281, t282, t285, t288, t291⟩ : S34)) := ⟨_, rfl⟩
   replace H : (laws_toTreeS.l0 k1 l0 y294 (wrap64 (x4_1 + 1))) = some r := z3_
   have Ny294 := q_ hy_
   clear hy_
   have H' := q_ H
   clear H
   have p280 : 0 ≤ (x4_1 : Int) := of_decide_eq_true z2_
   have q280 : x4_1 < (l0.length : Int) := of_decide_eq_true z2_
   obtain ⟨ad280, A280_1, c280_1, A280_2, c280_2, A280_3, c280_3, A280_4, c280_4, e280, hx280_0, hx280_1, hx280_2, hx280_3, hx280_4, hl280_1, hi280_1, hl280_2, hi280_2, hl280_3, hi280_3, hl280_4, hi280_4⟩ := at_T27 HR0.out x4_1 p280 q280
   cases e280
   replace hx280_0 := up_ HB hx280_0
   replace hx280_1 := up_ HB hx280_1
   replace hx280_2 := up_ HB hx280_2
   replace hx280_3 := up_ HB hx280_3
   replace hx280_4 := up_ HB hx280_4
   have HR280_1 := q_ hi280_1
   have HC280_1 := q_ hl280_1
   clear hi280_1 hl280_1
   have HR280_2 := q_ hi280_2
   have HC280_2 := q_ hl280_2
   clear hi280_2 hl280_2
   have HR280_3 := q_ hi280_3
   have HC280_3 := q_ hl280_3
   clear hi280_3 hl280_3
   have HR280_4 := q_ hi280_4
   have HC280_4 := q_ hl280_4
   clear hi280_4 hl280_4
   replace p280 := eq_true p280
   replace q280 := eq_true q280
   go_wp2_with (first | ((with_reducible refine gate_callee (f := 17) rfl ?_); refine goesL_ (some 20) rfl rfl Try.func17 (by kernel_rfl) rfl #[.agg #[.bool ((rd_T27 l0 x4_1).f0), .slice A280_1 ((rd_T27 l0 x4_1).f1).length c280_1, .slice A280_2 ((rd_T27 l0 x4_1).f2).length c280_2, .slice A280_3 ((rd_T27 l0 x4_1).f3).length c280_3, .slice A280_4 ((rd_T27 l0 x4_1).f4).length c280_4]] rfl z0_ ?_; (with_reducible refine (ih_laws_toTree k1 z37_ ((rd_T27 l0 x4_1).f0) _ _ ((rd_T27 l0 x4_1).f1) _ _ ((rd_T27 l0 x4_1).f2) _ _ ((rd_T27 l0 x4_1).f3) _ _ ((rd_T27 l0 x4_1).f4) t281 t282 t285 t288 t291 _ ?side1 ?side2 ?side3 ?side4 ?side5 ?side6 ?side7 ?side8 A8.out).mono ?_); (case side1 => repeat (first | exact (Kd.C_below HR280_1.out HB.out) | (with_reducible refine Kd.C_alloc ?_ _) | (with_reducible refine Kd.C_drewN ?_ _) | (with_reducible refine Kd.C_drew ?_))); (case side2 => exact HC280_1.out); (case side3 => repeat (first | exact (Kd.C_below HR280_2.out HB.out) | (with_reducible refine Kd.C_alloc ?_ _) | (with_reducible refine Kd.C_drewN ?_ _) | (with_reducible refine Kd.C_drew ?_))); (case side4 => exact HC280_2.out); (case side5 => repeat (first | exact (Kd.C_below HR280_3.out HB.out) | (with_reducible refine Kd.C_alloc ?_ _) | (with_reducible refine Kd.C_drewN ?_ _) | (with_reducible refine Kd.C_drew ?_))); (case side6 => exact HC280_3.out); (case side7 => repeat (first | exact (Kd.C_below HR280_4.out HB.out) | (with_reducible refine Kd.C_alloc ?_ _) | (with_reducible refine Kd.C_drewN ?_ _) | (with_reducible refine Kd.C_drew ?_))); (case side8 => exact HC280_4.out); rintro e w11 ⟨v283, v286, v289, v292, rfl, ho0, ho1, ho2, ho3, hb⟩; refine ⟨_, rfl, ?_⟩; have HO284 := q_ (Kd.R_lower ho0 (below_size cb_)); have HO287 := q_ (Kd.R_lower ho1 (below_size cb_)); have HO290 := q_ (Kd.R_lower (Kd.R_new' ho2 (Kd.R_lt z7_)) (below_size cb_)); replace HO_3 := q_ (Kd.R_mono (Kd.R_told (Kd.R_told (Kd.R_told (Kd.R_told (Kd.R_old z7_ hb) (Kd.R_base ho0)) (Kd.R_base ho1)) (Kd.R_base ho2)) (Kd.R_base ho3)) (fun _ h_ => h_.1)); have HO293 := q_ (Kd.R_lower ho3 (below_size cb_)); replace HB := hb_ hb; (try clear hb); (try clear hb2); (try clear hk); (try clear hi); (try clear ho0); (try clear ho1); (try clear ho2); (try clear ho3); have p10 : 0 ≤ (x4_1 : Int) := of_decide_eq_true z2_; have q10 : (x4_1 : Int) < ((x3_1.length : Int) : Int) := of_decide_eq_true z2_; obtain ⟨go10, co10, eo10, gb10, gl10, cl10, HG10⟩ := Kd.R_form HO_3.out (by omega); (first | cases eo10 | (injection eo10 with ea_ en_ ec_; (first | subst ea_ | (injection ea_ with ea_; subst ea_)); subst ec_; clear en_)); have GB10 := q_ gb10; have GG10 := q_ HG10; clear gb10 gl10 HG10; obtain ⟨ce10, hcl10, hM10, hcc10, hfr10⟩ := Kd.R_elem HO_3.out z34 (x4_1 : Int) p10 q10; obtain ⟨ve10_1, ve10_2, ve10_3, ve10_4, rfl, ge10_1, ge10_2, ge10_3, ge10_4⟩ := k34_openM hM10; have hx10_0 : w11.cell? ⟨go10, (x4_1 : Int).toNat * 5, none⟩ = some (.bool ((rd_T34 x3_1 x4_1).f0)) := hcc10 0 _ rfl; have hx10_1 : w11.cell? ⟨go10, (x4_1 : Int).toNat * 5 + 1, none⟩ = some (ve10_1) := hcc10 1 _ rfl; have hx10_2 : w11.cell? ⟨go10, (x4_1 : Int).toNat * 5 + 2, none⟩ = some (ve10_2) := hcc10 2 _ rfl; have hx10_3 : w11.cell? ⟨go10, (x4_1 : Int).toNat * 5 + 3, none⟩ = some (ve10_3) := hcc10 3 _ rfl; have hx10_4 : w11.cell? ⟨go10, (x4_1 : Int).toNat * 5 + 4, none⟩ = some (ve10_4) := hcc10 4 _ rfl; have hf10_0 : w11.frozen? ⟨go10, (x4_1 : Int).toNat * 5, none⟩ = false := hfr10 0; have hf10_1 : w11.frozen? ⟨go10, (x4_1 : Int).toNat * 5 + 1, none⟩ = false := hfr10 1; have hf10_2 : w11.frozen? ⟨go10, (x4_1 : Int).toNat * 5 + 2, none⟩ = false := hfr10 2; have hf10_3 : w11.frozen? ⟨go10, (x4_1 : Int).toNat * 5 + 3, none⟩ = false := hfr10 3; have hf10_4 : w11.frozen? ⟨go10, (x4_1 : Int).toNat * 5 + 4, none⟩ = false := hfr10 4; clear hcl10 hcc10 hfr10 hM10; replace p10 := eq_true p10; replace q10 := eq_true q10; have n_ := q_ (Kd.R_mono (ok' := (fun k_ => some k_ ≠ (v283 : Value).ownBlock ∧ some k_ ≠ (v286 : Value).ownBlock ∧ some k_ ≠ (v289 : Value).ownBlock ∧ some k_ ≠ (v292 : Value).ownBlock)) HO_3.out (fun k_ hk => ⟨hk.1.1.1.2, ⟨hk.1.1.2, ⟨hk.1.2, hk.2⟩⟩⟩)); clear HO_3; have HO_3 := n_; clear n_; obtain ⟨Ao14, co14, eo14⟩ := Kd.R_slice HO284.out; subst eo14; obtain ⟨Ao15, co15, eo15⟩ := Kd.R_slice HO287.out; subst eo15; obtain ⟨Ao16, co16, eo16⟩ := Kd.R_slice HO290.out; subst eo16; obtain ⟨Ao17, co17, eo17⟩ := Kd.R_slice HO293.out; subst eo17; have HX12 := q_ (show Kd.R k34 34 w11 w.heap.size (fun _ => True) (.slice (some ⟨go10, 0, none⟩) x3_1.length co10) x3_1 from (by (with_reducible repeat (first | apply Kd.R_alloc | apply Kd.R_drewN | apply Kd.R_drew)); exact Kd.R_mono HO_3.out (fun _ hk => trivial))); obtain ⟨ce12, hcl12, hM12, hcc12, hfr12⟩ := Kd.R_elem HX12.out z34 (x4_1 : Int) (of_decide_eq_true z2_) z87_; obtain ⟨ve12_1, ve12_2, ve12_3, ve12_4, rfl, ge12_1, ge12_2, ge12_3, ge12_4⟩ := k34_openM hM12; have HP12 := Kd.R_seg HX12.out (x4_1 : Int) (of_decide_eq_true z2_) z87_ (seg := [.bool t281, .slice Ao14 t282.length co14, .slice Ao15 t285.length co15, .slice Ao16 t288.length co16, .slice Ao17 t291.length co17]) (j := 0) hcl12 hcc12 (show 5 ≤ 5 from by decide) (x' := (⟨t281, t282, t285, t288, t291⟩ : S34)) (k34_mkM _ _ _ (⟨t281, t282, t285, t288, t291⟩ : S34) (Kd.R_mono (Kd.R_apart' (HO284.out) (Kd.R_typed HO_3.out) (by decide)) (fun k_ hk => ⟨trivial, fun e_ => (hk.2) (by rw [e_]; rfl)⟩)) (Kd.R_mono (Kd.R_apart' (HO287.out) (Kd.R_typed HO_3.out) (by decide)) (fun k_ hk => ⟨trivial, fun e_ => (hk.2) (by rw [e_]; rfl)⟩)) (Kd.R_mono (HO290.out) (fun k_ hk => ⟨trivial, fun e_ => (hk.2) (by rw [e_]; rfl)⟩)) (Kd.R_mono (Kd.R_apart' (HO293.out) (Kd.R_typed HO_3.out) (by decide)) (fun k_ hk => ⟨trivial, fun e_ => (hk.2) (by rw [e_]; rfl)⟩))) (fun _ hk => hk); have hx12_0 := hcc12 0 _ rfl; (try simp only [show (k34).sz = 5 from rfl, Nat.mul_one, Nat.add_zero] at hx12_0); have hf12_0 := hfr12 0; (try simp only [show (k34).sz = 5 from rfl, Nat.mul_one, Nat.add_zero] at hf12_0); have hx12_1 := hcc12 1 _ rfl; (try simp only [show (k34).sz = 5 from rfl, Nat.mul_one, Nat.add_zero] at hx12_1); have hf12_1 := hfr12 1; (try simp only [show (k34).sz = 5 from rfl, Nat.mul_one, Nat.add_zero] at hf12_1); have hx12_2 := hcc12 2 _ rfl; (try simp only [show (k34).sz = 5 from rfl, Nat.mul_one, Nat.add_zero] at hx12_2); have hf12_2 := hfr12 2; (try simp only [show (k34).sz = 5 from rfl, Nat.mul_one, Nat.add_zero] at hf12_2); have hx12_3 := hcc12 3 _ rfl; (try simp only [show (k34).sz = 5 from rfl, Nat.mul_one, Nat.add_zero] at hx12_3); have hf12_3 := hfr12 3; (try simp only [show (k34).sz = 5 from rfl, Nat.mul_one, Nat.add_zero] at hf12_3); have hx12_4 := hcc12 4 _ rfl; (try simp only [show (k34).sz = 5 from rfl, Nat.mul_one, Nat.add_zero] at hx12_4); have hf12_4 := hfr12 4; (try simp only [show (k34).sz = 5 from rfl, Nat.mul_one, Nat.add_zero] at hf12_4); clear hcl12 hcc12 hfr12 hM12) | ((with_reducible refine gate_store (t := 34) (p := 21) rfl ?_); refine store_event (t := 34) (p := 21) (v := ?vo_w13) (w1 := (((((w11.setCell ⟨go10, (x4_1 : Int).toNat * 5, none⟩ (.bool t281)).setCell ⟨go10, (x4_1 : Int).toNat * 5 + 1, none⟩ (.slice Ao14 t282.length co14)).setCell ⟨go10, (x4_1 : Int).toNat * 5 + 2, none⟩ (.slice Ao15 t285.length co15)).setCell ⟨go10, (x4_1 : Int).toNat * 5 + 3, none⟩ (.slice Ao16 t288.length co16)).setCell ⟨go10, (x4_1 : Int).toNat * 5 + 4, none⟩ (.slice Ao17 t291.length co17))) ?hg ?ho ?hn ?hr ?_; (case ho => rfl); (case hg => rfl); (case hn => rfl); (case hr => exact z92_); intro w13 hw; have hg : w11.grownBy w13 (some go10) := z86_; have hp_ : Kd.R k34 34 w13 w.heap.size (fun _ => True) (.slice (some ⟨go10, 0, none⟩) x3_1.length co10) y294 := (by rw [hw, Ny294.out]; exact HP12.1); clear HP12; replace HO_3 := q_ (hp_); replace HB := q_ ((by rw [hw]; exact below_set (below_set (below_set (below_set (below_set (HB.out) GB10.out) GB10.out) GB10.out) GB10.out) GB10.out : Below w.heap.size w w13)); clear HO284 HO287 HO290 HO293; clear hg hw hp_))
   go_roundg k1
   case measure => have := HK1.out; omega
   case rel => exact ⟨(y294), (wrap64 (x4_1 + 1)), z4_, H', ⟨z37_⟩, ⟨z7_⟩, ⟨cb_⟩⟩
  ·obtain rfl := si_ H
   go_wp2
   go_ret
   exact ⟨_, z1_, z7_, cb_⟩

/-! ### laws_toTree: function 17 -/
set_option maxHeartbeats 8000000 in
set_option maxRecDepth 100000 in
theorem laws_toTree.step (k : Nat) (ih_laws_toTreeS : ∀ m_, m_ < k → ∀ (A0 : Option Addr) (c0 : Nat) (l0 : List (S27)) (r : List (S34)) (w : World) (hr0 : Kd.C k27 w A0 l0.length l0) (hc0 : l0.length ≤ c0) (h : laws_toTreeS.f m_ l0 = some r),
  Calls Try.prog 62 #[.slice A0 l0.length c0] w fun e w' => ∃ v0_ : Value, e = .returned (v0_) ∧ Kd.R k34 34 w' w.heap.size (fun _ => True) v0_ r ∧ Below w.heap.size w w') (ih : ∀ m_, m_ < k → ∀ (a0_0 : Bool) (A0_1 : Option Addr) (c0_1 : Nat) (l0_1 : List (S107)) (A0_2 : Option Addr) (c0_2 : Nat) (l0_2 : List Int) (A0_3 : Option Addr) (c0_3 : Nat) (l0_3 : List (S27)) (A0_4 : Option Addr) (c0_4 : Nat) (l0_4 : List (S109)) (r1 : Bool) (r2 : List (S92)) (r3 : List Int) (r4 : List (S34)) (r5 : List (S72)) (w : World) (hr0_1 : Kd.C k107 w A0_1 l0_1.length l0_1) (hc0_1 : l0_1.length ≤ c0_1) (hr0_2 : Kd.C (Kd.int .i64) w A0_2 l0_2.length l0_2) (hc0_2 : l0_2.length ≤ c0_2) (hr0_3 : Kd.C k27 w A0_3 l0_3.length l0_3) (hc0_3 : l0_3.length ≤ c0_3) (hr0_4 : Kd.C k109 w A0_4 l0_4.length l0_4) (hc0_4 : l0_4.length ≤ c0_4) (h : laws_toTree.f m_ a0_0 l0_1 l0_2 l0_3 l0_4 = some (r1, r2, r3, r4, r5)),
  Calls Try.prog 17 #[.agg #[.bool a0_0, .slice A0_1 l0_1.length c0_1, .slice A0_2 l0_2.length c0_2, .slice A0_3 l0_3.length c0_3, .slice A0_4 l0_4.length c0_4]] w fun e w' => ∃ v1_ v2_ v3_ v4_ : Value, e = .returned (.agg #[.bool r1, v1_, v2_, v3_, v4_]) ∧ Kd.R k92 92 w' w.heap.size (fun _ => True) v1_ r2 ∧ Kd.R (Kd.int .i64) 3 w' w.heap.size (fun _ => True) v2_ r3 ∧ Kd.R k34 34 w' w.heap.size (fun k_ => some k_ ≠ (v1_ : Value).ownBlock ∧ some k_ ≠ (v2_ : Value).ownBlock ∧ some k_ ≠ (v4_ : Value).ownBlock) v3_ r4 ∧ Kd.R k72 72 w' w.heap.size (fun _ => True) v4_ r5 ∧ Below w.heap.size w w') : ∀ (a0_0 : Bool) (A0_1 : Option Addr) (c0_1 : Nat) (l0_1 : List (S107)) (A0_2 : Option Addr) (c0_2 : Nat) (l0_2 : List Int) (A0_3 : Option Addr) (c0_3 : Nat) (l0_3 : List (S27)) (A0_4 : Option Addr) (c0_4 : Nat) (l0_4 : List (S109)) (r1 : Bool) (r2 : List (S92)) (r3 : List Int) (r4 : List (S34)) (r5 : List (S72)) (w : World) (hr0_1 : Kd.C k107 w A0_1 l0_1.length l0_1) (hc0_1 : l0_1.length ≤ c0_1) (hr0_2 : Kd.C (Kd.int .i64) w A0_2 l0_2.length l0_2) (hc0_2 : l0_2.length ≤ c0_2) (hr0_3 : Kd.C k27 w A0_3 l0_3.length l0_3) (hc0_3 : l0_3.length ≤ c0_3) (hr0_4 : Kd.C k109 w A0_4 l0_4.length l0_4) (hc0_4 : l0_4.length ≤ c0_4) (h : laws_toTree.f k a0_0 l0_1 l0_2 l0_3 l0_4 = some (r1, r2, r3, r4, r5)),
  Calls Try.prog 17 #[.agg #[.bool a0_0, .slice A0_1 l0_1.length c0_1, .slice A0_2 l0_2.length c0_2, .slice A0_3 l0_3.length c0_3, .slice A0_4 l0_4.length c0_4]] w fun e w' => ∃ v1_ v2_ v3_ v4_ : Value, e = .returned (.agg #[.bool r1, v1_, v2_, v3_, v4_]) ∧ Kd.R k92 92 w' w.heap.size (fun _ => True) v1_ r2 ∧ Kd.R (Kd.int .i64) 3 w' w.heap.size (fun _ => True) v2_ r3 ∧ Kd.R k34 34 w' w.heap.size (fun k_ => some k_ ≠ (v1_ : Value).ownBlock ∧ some k_ ≠ (v2_ : Value).ownBlock ∧ some k_ ≠ (v4_ : Value).ownBlock) v3_ r4 ∧ Kd.R k72 72 w' w.heap.size (fun _ => True) v4_ r5 ∧ Below w.heap.size w w' := by
 intro a0_0 A0_1 c0_1 l0_1 A0_2 c0_2 l0_2 A0_3 c0_3 l0_3 A0_4 c0_4 l0_4 r1 r2 r3 r4 r5 w hr0_1 hc0_1 hr0_2 hc0_2 hr0_3 hc0_3 hr0_4 hc0_4 h
 cases k with
 | zero => exact absurd h (by simp [laws_toTree.f])
 | succ k =>
 simp only [laws_toTree.f] at h
 have hu27 := Try.underlying27
 have hu34 := Try.underlying34
 have HR0_1 := q_ hr0_1
 have HC0_1 := q_ hc0_1
 clear hr0_1 hc0_1
 have HR0_2 := q_ hr0_2
 have HC0_2 := q_ hc0_2
 clear hr0_2 hc0_2
 have HR0_3 := q_ hr0_3
 have HC0_3 := q_ hc0_3
 clear hr0_3 hc0_3
 have HR0_4 := q_ hr0_4
 have HC0_4 := q_ hc0_4
 clear hr0_4 hc0_4
 have HB := q_ (Below.refl w.heap.size w)
 have H := h; clear h
 replace H := bi_ H; obtain ⟨t298, A2, H⟩ := H
 replace H := bi_ H; obtain ⟨t301, A3, H⟩ := H
 replace H := bi_ H; obtain ⟨t304, A4, H⟩ := H
 replace H := bi_ H; obtain ⟨t307, A5, H⟩ := H
 simp only [Option.some.injEq, Prod.mk.injEq] at H
 obtain ⟨rfl, rfl, rfl, rfl, rfl⟩ := H
 go_enter Try.func17, Try.ntmps17
 go_wp2_with (first | ((with_reducible refine gate_dst (N := 1) rfl ?_); refine box_event ?hg (N := 1) ?hd (cs := #[.bool a0_0, .slice A0_1 l0_1.length c0_1, .slice A0_2 l0_2.length c0_2, .slice A0_3 l0_3.length c0_3, .slice A0_4 l0_4.length c0_4]) (t := 27) ?hr ?_; (case hd => rfl); (case hg => rfl); (case hr => exact z92_); intro gb295 hg w6 hbox hb; have BK295 := q_ (hbox); have GW295 := ge_ hg; have GE295 := ge_ hg; replace HB := hb_ hb; clear hb hbox hg) | ((with_reducible refine gate_dst (N := 2) rfl ?_); refine box_event ?hg (N := 2) ?hd (cs := #[.bool false, .slice none 0 0, .slice none 0 0, .slice none 0 0, .slice none 0 0]) (t := 34) ?hr ?_; (case hd => rfl); (case hg => rfl); (case hr => exact z92_); intro gb296 hg w7 hbox hb; have BK296 := q_ (hbox); have GW296 := ge_ hg; have GE296 := ge_ hg; replace HB := hb_ hb; have NB295_296 := nl_ hg BK295; have NB296_295 := nr_ hg BK295; replace BK295 := rb_ BK295 hb; clear hb hbox hg) | ((with_reducible refine gate_dst (N := 3) rfl ?_); refine box_event ?hg (N := 3) ?hd (cs := #[.bool false, .slice none 0 0, .slice none 0 0, .slice none 0 0, .slice none 0 0]) (t := 34) ?hr ?_; (case hd => rfl); (case hg => rfl); (case hr => exact z92_); intro gb297 hg w8 hbox hb; have BK297 := q_ (hbox); have GW297 := ge_ hg; have GE297 := ge_ hg; replace HB := hb_ hb; have NB295_297 := nl_ hg BK295; have NB297_295 := nr_ hg BK295; replace BK295 := rb_ BK295 hb; have NB296_297 := nl_ hg BK296; have NB297_296 := nr_ hg BK296; replace BK296 := rb_ BK296 hb; clear hb hbox hg; have hnb9 := NB295_296.out; have hnc9 := NB296_295.out; have hnb10 := NB295_297.out; have hnc10 := NB297_295.out; obtain ⟨hz_, hz_, hz_, hz_, hz_, hz_, hz_, hz_, hz_, hz_⟩ := cs5_ BK295.out; have hnb12 := NB297_296.out; have hnc12 := NB296_297.out; obtain ⟨hz_, hz_, hz_, hz_, hz_, hz_, hz_, hz_, hz_, hz_⟩ := cs5_ BK297.out) | ((with_reducible refine gate_callee (f := 60) rfl ?_); refine goesL_ (some 9) rfl rfl Try.func60 (by kernel_rfl) rfl #[.slice A0_1 l0_1.length c0_1] rfl z0_ ?_; (with_reducible refine (laws_toPairS.calls k _ _ l0_1 t298 _ ?side1 ?side2 A2.out).mono ?_); (case side1 => exact Kd.C_below HR0_1.out cb_); (case side2 => exact z115_); rintro e w14 ⟨v299, rfl, ho0, hb⟩; refine ⟨_, rfl, ?_⟩; have HO300 := q_ (Kd.R_lower ho0 (below_size cb_)); replace BK295 := q_ (blk_below (g := gb295) (o := .cells #[.bool a0_0, .slice A0_1 l0_1.length c0_1, .slice A0_2 l0_2.length c0_2, .slice A0_3 l0_3.length c0_3, .slice A0_4 l0_4.length c0_4] 27 (0, 0)) z30_ hb); replace BK296 := q_ (blk_below (g := gb296) (o := .cells #[.bool false, .slice none 0 0, .slice none 0 0, .slice none 0 0, .slice none 0 0] 34 (0, 0)) z23_ hb); replace BK297 := q_ (blk_below (g := gb297) (o := .cells #[.bool a0_0, .slice none 0 0, .slice none 0 0, .slice none 0 0, .slice none 0 0] 34 (0, 0)) (by (with_reducible repeat (first | refine blk_drewN ?_ _ | refine blk_drew ?_ | refine blk_alloc ?_ _)); refine blk_put (cs := #[.bool false, .slice none 0 0, .slice none 0 0, .slice none 0 0, .slice none 0 0]) ?_ 0 _ rfl; (with_reducible repeat (first | refine blk_drewN ?_ _ | refine blk_drew ?_ | refine blk_alloc ?_ _)); exact BK297.out) hb); replace HB := hb_ hb; (try clear hb); (try clear hb2); (try clear hk); (try clear hi); (try clear ho0); obtain ⟨Ao15, co15, eo15⟩ := Kd.R_slice HO300.out; subst eo15; obtain ⟨hz_, hz_, hz_, hz_, hz_, hz_, hz_, hz_, hz_, hz_⟩ := cs5_ BK297.out; obtain ⟨hz_, hz_, hz_, hz_, hz_, hz_, hz_, hz_, hz_, hz_⟩ := cs5_ BK295.out) | ((with_reducible refine gate_callee (f := 61) rfl ?_); refine goesL_ (some 13) rfl rfl Try.func61 (by kernel_rfl) rfl #[.slice A0_2 l0_2.length c0_2] rfl z0_ ?_; (with_reducible refine (laws_toIntS.calls k _ _ l0_2 t301 _ ?side1 ?side2 A3.out).mono ?_); (case side1 => exact Kd.C_below HR0_2.out cb_); (case side2 => exact z121_); rintro e w18 ⟨v302, rfl, ho0, hb⟩; refine ⟨_, rfl, ?_⟩; replace HO300 := q_ (Kd.R_below (by (with_reducible repeat (first | apply Kd.R_alloc | apply Kd.R_drewN | apply Kd.R_drew)); exact (Kd.R_mono (Kd.R_far (p := ⟨gb297, 1, none⟩) (Kd.R_types HO300.out BK297.out (by decide)) (fun _ hk => hk.2) (.slice Ao15 t298.length co15)) (fun _ h_ => h_.1))) hb); have HO303 := q_ (Kd.R_lower ho0 (below_size cb_)); replace BK295 := q_ (blk_below (g := gb295) (o := .cells #[.bool a0_0, .slice A0_1 l0_1.length c0_1, .slice A0_2 l0_2.length c0_2, .slice A0_3 l0_3.length c0_3, .slice A0_4 l0_4.length c0_4] 27 (0, 0)) z30_ hb); replace BK296 := q_ (blk_below (g := gb296) (o := .cells #[.bool false, .slice none 0 0, .slice none 0 0, .slice none 0 0, .slice none 0 0] 34 (0, 0)) z23_ hb); replace BK297 := q_ (blk_below (g := gb297) (o := .cells #[.bool a0_0, .slice Ao15 t298.length co15, .slice none 0 0, .slice none 0 0, .slice none 0 0] 34 (0, 0)) (by (with_reducible repeat (first | refine blk_drewN ?_ _ | refine blk_drew ?_ | refine blk_alloc ?_ _)); refine blk_put (cs := #[.bool a0_0, .slice none 0 0, .slice none 0 0, .slice none 0 0, .slice none 0 0]) ?_ 1 _ rfl; (with_reducible repeat (first | refine blk_drewN ?_ _ | refine blk_drew ?_ | refine blk_alloc ?_ _)); exact BK297.out) hb); replace HB := hb_ hb; (try clear hb); (try clear hb2); (try clear hk); (try clear hi); (try clear ho0); obtain ⟨Ao19, co19, eo19⟩ := Kd.R_slice HO303.out; subst eo19; obtain ⟨hz_, hz_, hz_, hz_, hz_, hz_, hz_, hz_, hz_, hz_⟩ := cs5_ BK297.out; obtain ⟨hz_, hz_, hz_, hz_, hz_, hz_, hz_, hz_, hz_, hz_⟩ := cs5_ BK295.out) | ((with_reducible refine gate_callee (f := 62) rfl ?_); refine goesL_ (some 17) rfl rfl Try.func62 (by kernel_rfl) rfl #[.slice A0_3 l0_3.length c0_3] rfl z0_ ?_; (with_reducible refine (ih_laws_toTreeS k (by omega) _ _ l0_3 t304 _ ?side1 ?side2 A4.out).mono ?_); (case side1 => exact Kd.C_below HR0_3.out cb_); (case side2 => exact z122_); rintro e w22 ⟨v305, rfl, ho0, hb⟩; refine ⟨_, rfl, ?_⟩; have HO306 := q_ (Kd.R_lower (Kd.R_newB (Kd.R_newB (Kd.R_new' (Kd.R_new' ho0 (Kd.R_lt (by (with_reducible repeat (first | apply Kd.R_alloc | apply Kd.R_drewN | apply Kd.R_drew)); exact (Kd.R_mono (Kd.R_far (p := ⟨gb297, 2, none⟩) (Kd.R_types HO300.out BK297.out (by decide)) (fun _ hk => hk.2) (.slice Ao19 t301.length co19)) (fun _ h_ => h_.1))))) (Kd.R_lt (by (with_reducible repeat (first | apply Kd.R_alloc | apply Kd.R_drewN | apply Kd.R_drew)); exact (Kd.R_mono (Kd.R_far (p := ⟨gb297, 2, none⟩) (Kd.R_types HO303.out BK297.out (by decide)) (fun _ hk => hk.2) (.slice Ao19 t301.length co19)) (fun _ h_ => h_.1))))) (g := gb296) (o := .cells #[.bool false, .slice none 0 0, .slice none 0 0, .slice none 0 0, .slice none 0 0] 34 (0, 0)) z23_) (g := gb297) (o := .cells #[.bool a0_0, .slice Ao15 t298.length co15, .slice Ao19 t301.length co19, .slice none 0 0, .slice none 0 0] 34 (0, 0)) z44_) (below_size cb_)); replace HO300 := q_ (Kd.R_below (by (with_reducible repeat (first | apply Kd.R_alloc | apply Kd.R_drewN | apply Kd.R_drew)); exact (Kd.R_mono (Kd.R_far (p := ⟨gb297, 2, none⟩) (Kd.R_types HO300.out BK297.out (by decide)) (fun _ hk => hk.2) (.slice Ao19 t301.length co19)) (fun _ h_ => h_.1))) hb); replace HO303 := q_ (Kd.R_below (by (with_reducible repeat (first | apply Kd.R_alloc | apply Kd.R_drewN | apply Kd.R_drew)); exact (Kd.R_mono (Kd.R_far (p := ⟨gb297, 2, none⟩) (Kd.R_types HO303.out BK297.out (by decide)) (fun _ hk => hk.2) (.slice Ao19 t301.length co19)) (fun _ h_ => h_.1))) hb); replace BK295 := q_ (blk_below (g := gb295) (o := .cells #[.bool a0_0, .slice A0_1 l0_1.length c0_1, .slice A0_2 l0_2.length c0_2, .slice A0_3 l0_3.length c0_3, .slice A0_4 l0_4.length c0_4] 27 (0, 0)) z30_ hb); replace BK296 := q_ (blk_below (g := gb296) (o := .cells #[.bool false, .slice none 0 0, .slice none 0 0, .slice none 0 0, .slice none 0 0] 34 (0, 0)) z23_ hb); replace BK297 := q_ (blk_below (g := gb297) (o := .cells #[.bool a0_0, .slice Ao15 t298.length co15, .slice Ao19 t301.length co19, .slice none 0 0, .slice none 0 0] 34 (0, 0)) z44_ hb); replace HB := hb_ hb; (try clear hb); (try clear hb2); (try clear hk); (try clear hi); (try clear ho0); obtain ⟨Ao23, co23, eo23⟩ := Kd.R_slice HO306.out; subst eo23; obtain ⟨hz_, hz_, hz_, hz_, hz_, hz_, hz_, hz_, hz_, hz_⟩ := cs5_ BK297.out; obtain ⟨hz_, hz_, hz_, hz_, hz_, hz_, hz_, hz_, hz_, hz_⟩ := cs5_ BK295.out) | ((with_reducible refine gate_callee (f := 63) rfl ?_); refine goesL_ (some 21) rfl rfl Try.func63 (by kernel_rfl) rfl #[.slice A0_4 l0_4.length c0_4] rfl z0_ ?_; (with_reducible refine (laws_toMsgS.calls k _ _ l0_4 t307 _ ?side1 ?side2 A5.out).mono ?_); (case side1 => exact Kd.C_below HR0_4.out cb_); (case side2 => exact z119_); rintro e w26 ⟨v308, rfl, ho0, hb⟩; refine ⟨_, rfl, ?_⟩; replace HO300 := q_ (Kd.R_below (by (with_reducible repeat (first | apply Kd.R_alloc | apply Kd.R_drewN | apply Kd.R_drew)); exact (Kd.R_mono (Kd.R_far (p := ⟨gb297, 3, none⟩) (Kd.R_types HO300.out BK297.out (by decide)) (fun _ hk => hk.2) (.slice Ao23 t304.length co23)) (fun _ h_ => h_.1))) hb); replace HO303 := q_ (Kd.R_below (by (with_reducible repeat (first | apply Kd.R_alloc | apply Kd.R_drewN | apply Kd.R_drew)); exact (Kd.R_mono (Kd.R_far (p := ⟨gb297, 3, none⟩) (Kd.R_types HO303.out BK297.out (by decide)) (fun _ hk => hk.2) (.slice Ao23 t304.length co23)) (fun _ h_ => h_.1))) hb); replace HO306 := q_ (Kd.R_elder' (by (with_reducible repeat (first | apply Kd.R_alloc | apply Kd.R_drewN | apply Kd.R_drew)); exact (Kd.R_mono (Kd.R_far (p := ⟨gb297, 3, none⟩) (Kd.R_mono HO306.out (fun k_ hk => (⟨hk, hk.2⟩ : _ ∧ k_ ≠ gb297))) (fun _ hk => hk.2) (.slice Ao23 t304.length co23)) (fun _ h_ => h_.1))) (Kd.R_base ho0) hb); have HO309 := q_ (Kd.R_lower ho0 (below_size cb_)); replace BK295 := q_ (blk_below (g := gb295) (o := .cells #[.bool a0_0, .slice A0_1 l0_1.length c0_1, .slice A0_2 l0_2.length c0_2, .slice A0_3 l0_3.length c0_3, .slice A0_4 l0_4.length c0_4] 27 (0, 0)) z30_ hb); replace BK296 := q_ (blk_below (g := gb296) (o := .cells #[.bool false, .slice none 0 0, .slice none 0 0, .slice none 0 0, .slice none 0 0] 34 (0, 0)) z23_ hb); replace BK297 := q_ (blk_below (g := gb297) (o := .cells #[.bool a0_0, .slice Ao15 t298.length co15, .slice Ao19 t301.length co19, .slice Ao23 t304.length co23, .slice none 0 0] 34 (0, 0)) (by (with_reducible repeat (first | refine blk_drewN ?_ _ | refine blk_drew ?_ | refine blk_alloc ?_ _)); refine blk_put (cs := #[.bool a0_0, .slice Ao15 t298.length co15, .slice Ao19 t301.length co19, .slice none 0 0, .slice none 0 0]) ?_ 3 _ rfl; (with_reducible repeat (first | refine blk_drewN ?_ _ | refine blk_drew ?_ | refine blk_alloc ?_ _)); exact BK297.out) hb); replace HB := hb_ hb; (try clear hb); (try clear hb2); (try clear hk); (try clear hi); (try clear ho0); obtain ⟨Ao27, co27, eo27⟩ := Kd.R_slice HO309.out; subst eo27; obtain ⟨hz_, hz_, hz_, hz_, hz_, hz_, hz_, hz_, hz_, hz_⟩ := cs5_ BK297.out; obtain ⟨hz_, hz_, hz_, hz_, hz_, hz_, hz_, hz_, hz_, hz_⟩ := cs5_ BK296.out))
 refine bodyPost_ret (results_cell_row rfl _ _ gb296 34 #[.bool a0_0, .slice Ao15 t298.length co15, .slice Ao19 t301.length co19, .slice Ao23 t304.length co23, .slice Ao27 t307.length co27] (0, 0) _ rfl (by (with_reducible repeat (first | refine blk_drewN ?_ _ | refine blk_drew ?_ | refine blk_alloc ?_ _)); refine blk_put (cs := #[.bool a0_0, .slice Ao15 t298.length co15, .slice Ao19 t301.length co19, .slice Ao23 t304.length co23, .slice none 0 0]) ?_ 4 _ rfl; (with_reducible repeat (first | refine blk_drewN ?_ _ | refine blk_drew ?_ | refine blk_alloc ?_ _)); refine blk_put (cs := #[.bool a0_0, .slice Ao15 t298.length co15, .slice Ao19 t301.length co19, .slice none 0 0, .slice none 0 0]) ?_ 3 _ rfl; (with_reducible repeat (first | refine blk_drewN ?_ _ | refine blk_drew ?_ | refine blk_alloc ?_ _)); refine blk_put (cs := #[.bool a0_0, .slice Ao15 t298.length co15, .slice none 0 0, .slice none 0 0, .slice none 0 0]) ?_ 2 _ rfl; (with_reducible repeat (first | refine blk_drewN ?_ _ | refine blk_drew ?_ | refine blk_alloc ?_ _)); refine blk_put (cs := #[.bool a0_0, .slice none 0 0, .slice none 0 0, .slice none 0 0, .slice none 0 0]) ?_ 1 _ rfl; (with_reducible repeat (first | refine blk_drewN ?_ _ | refine blk_drew ?_ | refine blk_alloc ?_ _)); refine blk_put (cs := #[.bool false, .slice none 0 0, .slice none 0 0, .slice none 0 0, .slice none 0 0]) ?_ 0 _ rfl; (with_reducible repeat (first | refine blk_drewN ?_ _ | refine blk_drew ?_ | refine blk_alloc ?_ _)); refine blk_far ?_ NB296_297.out _; (with_reducible repeat (first | refine blk_drewN ?_ _ | refine blk_drew ?_ | refine blk_alloc ?_ _)); exact BK296.out) Try.underlying34 rfl (by kernel_rfl)) rfl ?_
 exact ⟨_, _, _, _, z1_, by (with_reducible repeat (first | apply Kd.R_alloc | apply Kd.R_drewN | apply Kd.R_drew)); exact Kd.R_mono (Kd.R_far (p := ⟨gb296, 4, none⟩) (Kd.R_far (p := ⟨gb296, 3, none⟩) (Kd.R_far (p := ⟨gb296, 2, none⟩) (Kd.R_far (p := ⟨gb296, 1, none⟩) (Kd.R_far (p := ⟨gb296, 0, none⟩) (Kd.R_far (p := ⟨gb297, 4, none⟩) (Kd.R_types (Kd.R_types HO300.out BK297.out (by decide)) BK296.out (by decide)) (fun _ hk => hk.1.2) (.slice Ao27 t307.length co27)) (fun _ hk => hk.2) (.bool a0_0)) (fun _ hk => hk.2) (.slice Ao15 t298.length co15)) (fun _ hk => hk.2) (.slice Ao19 t301.length co19)) (fun _ hk => hk.2) (.slice Ao23 t304.length co23)) (fun _ hk => hk.2) (.slice Ao27 t307.length co27)) (fun _ hk => trivial), by (with_reducible repeat (first | apply Kd.R_alloc | apply Kd.R_drewN | apply Kd.R_drew)); exact Kd.R_mono (Kd.R_far (p := ⟨gb296, 4, none⟩) (Kd.R_far (p := ⟨gb296, 3, none⟩) (Kd.R_far (p := ⟨gb296, 2, none⟩) (Kd.R_far (p := ⟨gb296, 1, none⟩) (Kd.R_far (p := ⟨gb296, 0, none⟩) (Kd.R_far (p := ⟨gb297, 4, none⟩) (Kd.R_types (Kd.R_types HO303.out BK297.out (by decide)) BK296.out (by decide)) (fun _ hk => hk.1.2) (.slice Ao27 t307.length co27)) (fun _ hk => hk.2) (.bool a0_0)) (fun _ hk => hk.2) (.slice Ao15 t298.length co15)) (fun _ hk => hk.2) (.slice Ao19 t301.length co19)) (fun _ hk => hk.2) (.slice Ao23 t304.length co23)) (fun _ hk => hk.2) (.slice Ao27 t307.length co27)) (fun _ hk => trivial), by (with_reducible repeat (first | apply Kd.R_alloc | apply Kd.R_drewN | apply Kd.R_drew)); exact Kd.R_mono (Kd.R_far (p := ⟨gb296, 4, none⟩) (Kd.R_far (p := ⟨gb296, 3, none⟩) (Kd.R_far (p := ⟨gb296, 2, none⟩) (Kd.R_far (p := ⟨gb296, 1, none⟩) (Kd.R_far (p := ⟨gb296, 0, none⟩) (Kd.R_far (p := ⟨gb297, 4, none⟩) (Kd.R_mono (Kd.R_mono HO306.out (fun k_ hk => (⟨hk, hk.1.2⟩ : _ ∧ k_ ≠ gb297))) (fun k_ hk => (⟨hk, hk.1.1.1.2⟩ : _ ∧ k_ ≠ gb296))) (fun _ hk => hk.1.2) (.slice Ao27 t307.length co27)) (fun _ hk => hk.2) (.bool a0_0)) (fun _ hk => hk.2) (.slice Ao15 t298.length co15)) (fun _ hk => hk.2) (.slice Ao19 t301.length co19)) (fun _ hk => hk.2) (.slice Ao23 t304.length co23)) (fun _ hk => hk.2) (.slice Ao27 t307.length co27)) (fun _ hk => ⟨hk.1.1.1.1.1.1.2, ⟨hk.1.1.1.1.1.2, hk.1.1.2⟩⟩), by (with_reducible repeat (first | apply Kd.R_alloc | apply Kd.R_drewN | apply Kd.R_drew)); exact Kd.R_mono (Kd.R_far (p := ⟨gb296, 4, none⟩) (Kd.R_far (p := ⟨gb296, 3, none⟩) (Kd.R_far (p := ⟨gb296, 2, none⟩) (Kd.R_far (p := ⟨gb296, 1, none⟩) (Kd.R_far (p := ⟨gb296, 0, none⟩) (Kd.R_far (p := ⟨gb297, 4, none⟩) (Kd.R_types (Kd.R_types HO309.out BK297.out (by decide)) BK296.out (by decide)) (fun _ hk => hk.1.2) (.slice Ao27 t307.length co27)) (fun _ hk => hk.2) (.bool a0_0)) (fun _ hk => hk.2) (.slice Ao15 t298.length co15)) (fun _ hk => hk.2) (.slice Ao19 t301.length co19)) (fun _ hk => hk.2) (.slice Ao23 t304.length co23)) (fun _ hk => hk.2) (.slice Ao27 t307.length co27)) (fun _ hk => trivial), cb_⟩

theorem laws_toTreeS.all : ∀ k, (∀ (A0 : Option Addr) (c0 : Nat) (l0 : List (S27)) (r : List (S34)) (w : World) (hr0 : Kd.C k27 w A0 l0.length l0) (hc0 : l0.length ≤ c0) (h : laws_toTreeS.f k l0 = some r),
  Calls Try.prog 62 #[.slice A0 l0.length c0] w fun e w' => ∃ v0_ : Value, e = .returned (v0_) ∧ Kd.R k34 34 w' w.heap.size (fun _ => True) v0_ r ∧ Below w.heap.size w w') ∧ (∀ (a0_0 : Bool) (A0_1 : Option Addr) (c0_1 : Nat) (l0_1 : List (S107)) (A0_2 : Option Addr) (c0_2 : Nat) (l0_2 : List Int) (A0_3 : Option Addr) (c0_3 : Nat) (l0_3 : List (S27)) (A0_4 : Option Addr) (c0_4 : Nat) (l0_4 : List (S109)) (r1 : Bool) (r2 : List (S92)) (r3 : List Int) (r4 : List (S34)) (r5 : List (S72)) (w : World) (hr0_1 : Kd.C k107 w A0_1 l0_1.length l0_1) (hc0_1 : l0_1.length ≤ c0_1) (hr0_2 : Kd.C (Kd.int .i64) w A0_2 l0_2.length l0_2) (hc0_2 : l0_2.length ≤ c0_2) (hr0_3 : Kd.C k27 w A0_3 l0_3.length l0_3) (hc0_3 : l0_3.length ≤ c0_3) (hr0_4 : Kd.C k109 w A0_4 l0_4.length l0_4) (hc0_4 : l0_4.length ≤ c0_4) (h : laws_toTree.f k a0_0 l0_1 l0_2 l0_3 l0_4 = some (r1, r2, r3, r4, r5)),
  Calls Try.prog 17 #[.agg #[.bool a0_0, .slice A0_1 l0_1.length c0_1, .slice A0_2 l0_2.length c0_2, .slice A0_3 l0_3.length c0_3, .slice A0_4 l0_4.length c0_4]] w fun e w' => ∃ v1_ v2_ v3_ v4_ : Value, e = .returned (.agg #[.bool r1, v1_, v2_, v3_, v4_]) ∧ Kd.R k92 92 w' w.heap.size (fun _ => True) v1_ r2 ∧ Kd.R (Kd.int .i64) 3 w' w.heap.size (fun _ => True) v2_ r3 ∧ Kd.R k34 34 w' w.heap.size (fun k_ => some k_ ≠ (v1_ : Value).ownBlock ∧ some k_ ≠ (v2_ : Value).ownBlock ∧ some k_ ≠ (v4_ : Value).ownBlock) v3_ r4 ∧ Kd.R k72 72 w' w.heap.size (fun _ => True) v4_ r5 ∧ Below w.heap.size w w') := by
 intro k
 induction k using Nat.strongRecOn with
 | _ k ih_ =>
 exact ⟨laws_toTreeS.step k (fun m_ h_ => (ih_ m_ h_).1) (fun m_ h_ => (ih_ m_ h_).2), laws_toTree.step k (fun m_ h_ => (ih_ m_ h_).1) (fun m_ h_ => (ih_ m_ h_).2)⟩
theorem laws_toTreeS.calls (k : Nat) : ∀ (A0 : Option Addr) (c0 : Nat) (l0 : List (S27)) (r : List (S34)) (w : World) (hr0 : Kd.C k27 w A0 l0.length l0) (hc0 : l0.length ≤ c0) (h : laws_toTreeS.f k l0 = some r),
  Calls Try.prog 62 #[.slice A0 l0.length c0] w fun e w' => ∃ v0_ : Value, e = .returned (v0_) ∧ Kd.R k34 34 w' w.heap.size (fun _ => True) v0_ r ∧ Below w.heap.size w w' := (laws_toTreeS.all k).1
theorem laws_toTree.calls (k : Nat) : ∀ (a0_0 : Bool) (A0_1 : Option Addr) (c0_1 : Nat) (l0_1 : List (S107)) (A0_2 : Option Addr) (c0_2 : Nat) (l0_2 : List Int) (A0_3 : Option Addr) (c0_3 : Nat) (l0_3 : List (S27)) (A0_4 : Option Addr) (c0_4 : Nat) (l0_4 : List (S109)) (r1 : Bool) (r2 : List (S92)) (r3 : List Int) (r4 : List (S34)) (r5 : List (S72)) (w : World) (hr0_1 : Kd.C k107 w A0_1 l0_1.length l0_1) (hc0_1 : l0_1.length ≤ c0_1) (hr0_2 : Kd.C (Kd.int .i64) w A0_2 l0_2.length l0_2) (hc0_2 : l0_2.length ≤ c0_2) (hr0_3 : Kd.C k27 w A0_3 l0_3.length l0_3) (hc0_3 : l0_3.length ≤ c0_3) (hr0_4 : Kd.C k109 w A0_4 l0_4.length l0_4) (hc0_4 : l0_4.length ≤ c0_4) (h : laws_toTree.f k a0_0 l0_1 l0_2 l0_3 l0_4 = some (r1, r2, r3, r4, r5)),
  Calls Try.prog 17 #[.agg #[.bool a0_0, .slice A0_1 l0_1.length c0_1, .slice A0_2 l0_2.length c0_2, .slice A0_3 l0_3.length c0_3, .slice A0_4 l0_4.length c0_4]] w fun e w' => ∃ v1_ v2_ v3_ v4_ : Value, e = .returned (.agg #[.bool r1, v1_, v2_, v3_, v4_]) ∧ Kd.R k92 92 w' w.heap.size (fun _ => True) v1_ r2 ∧ Kd.R (Kd.int .i64) 3 w' w.heap.size (fun _ => True) v2_ r3 ∧ Kd.R k34 34 w' w.heap.size (fun k_ => some k_ ≠ (v1_ : Value).ownBlock ∧ some k_ ≠ (v2_ : Value).ownBlock ∧ some k_ ≠ (v4_ : Value).ownBlock) v3_ r4 ∧ Kd.R k72 72 w' w.heap.size (fun _ => True) v4_ r5 ∧ Below w.heap.size w w' := (laws_toTreeS.all k).2

/-! ### laws_toDone: function 115 -/
def laws_toDone.f (a0_0 : Int) (a0_1 : Int) (a0_2 : Int) (a0_3 : Bool) : Option (Int × Int × Int × Bool) := some (a0_0, a0_1, a0_2, a0_3)
set_option maxHeartbeats 8000000 in
set_option maxRecDepth 100000 in
theorem laws_toDone.calls (a0_0 : Int) (a0_1 : Int) (a0_2 : Int) (a0_3 : Bool) (r1 : Int) (r2 : Int) (r3 : Int) (r4 : Bool) (w : World) (h : laws_toDone.f a0_0 a0_1 a0_2 a0_3 = some (r1, r2, r3, r4)) :
  Calls Try.prog 115 #[.agg #[.int .i64 a0_0, .int .i64 a0_1, .int .i64 a0_2, .bool a0_3]] w fun e w' => e = .returned (.agg #[.int .i64 r1, .int .i64 r2, .int .i64 r3, .bool r4]) ∧ Below w.heap.size w w' := by
 have hu122 := Try.underlying122
 have hu98 := Try.underlying98
 have HB := q_ (Below.refl w.heap.size w)
 have H := h; clear h
 unfold laws_toDone.f at H
 simp only [Option.some.injEq, Prod.mk.injEq] at H
 obtain ⟨rfl, rfl, rfl, rfl⟩ := H
 go_enter Try.func115, Try.ntmps115
 go_wp2_with (first | ((with_reducible refine gate_dst (N := 1) rfl ?_); refine box_event ?hg (N := 1) ?hd (cs := #[.int .i64 a0_0, .int .i64 a0_1, .int .i64 a0_2, .bool a0_3]) (t := 122) ?hr ?_; (case hd => rfl); (case hg => rfl); (case hr => exact z92_); intro gb310 hg w2 hbox hb; have BK310 := q_ (hbox); have GW310 := ge_ hg; have GE310 := ge_ hg; replace HB := hb_ hb; clear hb hbox hg) | ((with_reducible refine gate_dst (N := 2) rfl ?_); refine box_event ?hg (N := 2) ?hd (cs := #[.int .i64 0, .int .i64 0, .int .i64 0, .bool false]) (t := 98) ?hr ?_; (case hd => rfl); (case hg => rfl); (case hr => exact z92_); intro gb311 hg w3 hbox hb; have BK311 := q_ (hbox); have GW311 := ge_ hg; have GE311 := ge_ hg; replace HB := hb_ hb; have NB310_311 := nl_ hg BK310; have NB311_310 := nr_ hg BK310; replace BK310 := rb_ BK310 hb; clear hb hbox hg) | ((with_reducible refine gate_dst (N := 3) rfl ?_); refine box_event ?hg (N := 3) ?hd (cs := #[.int .i64 0, .int .i64 0, .int .i64 0, .bool false]) (t := 98) ?hr ?_; (case hd => rfl); (case hg => rfl); (case hr => exact z92_); intro gb312 hg w4 hbox hb; have BK312 := q_ (hbox); have GW312 := ge_ hg; have GE312 := ge_ hg; replace HB := hb_ hb; have NB310_312 := nl_ hg BK310; have NB312_310 := nr_ hg BK310; replace BK310 := rb_ BK310 hb; have NB311_312 := nl_ hg BK311; have NB312_311 := nr_ hg BK311; replace BK311 := rb_ BK311 hb; clear hb hbox hg; have hnb5 := NB310_311.out; have hnc5 := NB311_310.out; have hnb6 := NB310_312.out; have hnc6 := NB312_310.out; obtain ⟨hz_, hz_, hz_, hz_, hz_, hz_, hz_, hz_⟩ := cs4_ BK310.out; have hnb8 := NB312_311.out; have hnc8 := NB311_312.out; obtain ⟨hz_, hz_, hz_, hz_, hz_, hz_, hz_, hz_⟩ := cs4_ BK312.out; obtain ⟨hz_, hz_, hz_, hz_, hz_, hz_, hz_, hz_⟩ := cs4_ BK311.out))
 refine bodyPost_ret (results_cell_row rfl _ _ gb311 98 #[.int .i64 a0_0, .int .i64 a0_1, .int .i64 a0_2, .bool a0_3] (0, 0) _ rfl (by (with_reducible repeat (first | refine blk_drewN ?_ _ | refine blk_drew ?_ | refine blk_alloc ?_ _)); refine blk_put (cs := #[.int .i64 a0_0, .int .i64 a0_1, .int .i64 a0_2, .bool false]) ?_ 3 _ rfl; (with_reducible repeat (first | refine blk_drewN ?_ _ | refine blk_drew ?_ | refine blk_alloc ?_ _)); refine blk_put (cs := #[.int .i64 a0_0, .int .i64 a0_1, .int .i64 0, .bool false]) ?_ 2 _ rfl; (with_reducible repeat (first | refine blk_drewN ?_ _ | refine blk_drew ?_ | refine blk_alloc ?_ _)); refine blk_put (cs := #[.int .i64 a0_0, .int .i64 0, .int .i64 0, .bool false]) ?_ 1 _ rfl; (with_reducible repeat (first | refine blk_drewN ?_ _ | refine blk_drew ?_ | refine blk_alloc ?_ _)); refine blk_put (cs := #[.int .i64 0, .int .i64 0, .int .i64 0, .bool false]) ?_ 0 _ rfl; (with_reducible repeat (first | refine blk_drewN ?_ _ | refine blk_drew ?_ | refine blk_alloc ?_ _)); refine blk_far ?_ NB311_312.out _; (with_reducible repeat (first | refine blk_drewN ?_ _ | refine blk_drew ?_ | refine blk_alloc ?_ _)); refine blk_far ?_ NB311_312.out _; (with_reducible repeat (first | refine blk_drewN ?_ _ | refine blk_drew ?_ | refine blk_alloc ?_ _)); refine blk_far ?_ NB311_312.out _; (with_reducible repeat (first | refine blk_drewN ?_ _ | refine blk_drew ?_ | refine blk_alloc ?_ _)); refine blk_far ?_ NB311_312.out _; (with_reducible repeat (first | refine blk_drewN ?_ _ | refine blk_drew ?_ | refine blk_alloc ?_ _)); exact BK311.out) Try.underlying98 rfl (by kernel_rfl)) rfl ?_
 exact ⟨z1_, cb_⟩

/-! ### laws_toDoneS: function 88 -/
def laws_toDoneS.l0 : Nat → List (S122) → List (S98) → Int → Option ((List (S98)))
 | 0, _, _, _ => none
 | k + 1, x0, x3, x4 => if x4 < (x0.length : Int) then (if 0 ≤ x4 then ((laws_toDone.f ((rd_T122 x0 x4).f0) ((rd_T122 x0 x4).f1) ((rd_T122 x0 x4).f2) ((rd_T122 x0 x4).f3)).bind fun bt317 => (if x4 < (x3.length : Int) then (laws_toDoneS.l0 k x0 (x3.set (x4 : Int).toNat (⟨bt317.1, bt317.2.1, bt317.2.2.1, bt317.2.2.2⟩ : S98)) (wrap64 (x4 + 1))) else (none))) else (none)) else (some x3)
def laws_toDoneS.f (k : Nat) (l0 : List (S122)) : Option ((List (S98))) := if 0 ≤ (l0.length : Int) then (if ((l0.length : Int) : Int).toNat ≤ 8796093022208 then (laws_toDoneS.l0 k l0 (List.replicate ((l0.length : Int) : Int).toNat z98) 0) else (none)) else (none)
theorem laws_toDoneS.mono_l : ∀ k, (∀ y0 y1 y2, LeO (laws_toDoneS.l0 k y0 y1 y2) (laws_toDoneS.l0 (k + 1) y0 y1 y2))
 | 0 => fun _ _ _ r h => by simp [laws_toDoneS.l0] at h
 | k + 1 => by
  have ih0 := laws_toDoneS.mono_l k
  ·intro y0 y1 y2
   unfold laws_toDoneS.l0
   exact zm_
theorem laws_toDoneS.mono : ∀ a0 k, LeO (laws_toDoneS.f k a0) (laws_toDoneS.f (k + 1) a0) := by
 intro a0 k
 have ih0 := laws_toDoneS.mono_l k
 unfold laws_toDoneS.f
 exact zm_
set_option maxHeartbeats 8000000 in
set_option maxRecDepth 100000 in
theorem laws_toDoneS.calls (k : Nat) (A0 : Option Addr) (c0 : Nat) (l0 : List (S122)) (r : List (S98)) (w : World) (hr0 : Kd.C k122 w A0 l0.length l0) (hc0 : l0.length ≤ c0) (h : laws_toDoneS.f k l0 = some r) :
  Calls Try.prog 88 #[.slice A0 l0.length c0] w fun e w' => ∃ v0_ : Value, e = .returned (v0_) ∧ Kd.R k98 98 w' w.heap.size (fun _ => True) v0_ r ∧ Below w.heap.size w w' := by
 have hu122 := Try.underlying122
 have hu98 := Try.underlying98
 have HR0 := q_ hr0
 have HC0 := q_ hc0
 clear hr0 hc0
 have HB := q_ (Below.refl w.heap.size w)
 have H := h; clear h
 unfold laws_toDoneS.f at H
 replace H := ktn_ H; obtain ⟨c2b0, c2b1, H⟩ := H
 replace H := ktn_ H; obtain ⟨c3b0, c3b1, H⟩ := H
 obtain ⟨y313, hy_⟩ : ∃ y_ : List (S98), y_ = (List.replicate ((l0.length : Int) : Int).toNat z98) := ⟨_, rfl⟩
 replace H : (laws_toDoneS.l0 k l0 y313 0) = some r := z3_
 have Ny313 := q_ hy_
 clear hy_
 have H' := q_ H
 clear H
 go_enter Try.func88, Try.ntmps88
 go_wp2_with (first | ((with_reducible refine gate_dst (N := 7) rfl ?_); refine Kd.R_make k98 _ 98 rfl (N := 7) rfl 62 _ _ rfl (l0.length : Int) rfl rfl Try.underlying62 (.agg #[(.int .i64 0), (.int .i64 0), (.int .i64 0), (.bool false)]) 32 info98 rfl (by decide) (by omega) z98 (ok := fun _ => True) (okp := fun _ => True) (k98_mkM _ _ _ z98 ) (fun _ hk => hk) trivial (of_decide_eq_true z2_) (Nat.le_trans (Nat.mul_le_mul_right _ (of_decide_eq_true z2_ : (l0.length : Int).toNat ≤ 8796093022208)) (by omega)) (Below.refl _ _) (Nat.le_refl _) ?_; intro v314 w4 ho5 hb hg_ hnew_; clear hg_ hnew_; (first | rw [← Ny313.out] at ho5 | (simp only [Int.reduceToNat] at ho5; rw [← Ny313.out] at ho5)); have HO315 := q_ (Kd.R_lower ho5 (below_size cb_)); replace HB := hb_ hb; clear hb ho5))
 go_loopg [4] k (fun kq v4 w' => ∃ (x3_1 : List (S98)) (x4_1 : Int), v4 = .int .i64 x4_1 ∧ Aside0 (laws_toDoneS.l0 kq l0 x3_1 x4_1 = some r) ∧ Aside0 (kq ≤ k) ∧ Aside0 (Kd.R k98 98 w' w.heap.size (fun _ => True) v314 x3_1) ∧ Aside0 (Below w.heap.size w w'))
 case atStart => exact ⟨(y313), (0), z4_, H', ⟨Nat.le_refl _⟩, ⟨by (with_reducible repeat (first | apply Kd.R_alloc | apply Kd.R_drewN | apply Kd.R_drew)); exact HO315.out⟩, ⟨cb_⟩⟩
 case round =>
  clear H'
  try clear c2
  try clear c2b0
  try clear c2b1
  try clear p2
  try clear c3
  try clear c3b0
  try clear c3b1
  obtain ⟨x3_1, x4_1, rfl, HA, HK1, HO_3, HB⟩ := hrel
  obtain ⟨k1, rfl, H⟩ := rn_ (k := gk) HA (by rintro rfl; simp only [laws_toDoneS.l0])
  clear HA
  simp only [laws_toDoneS.l0] at H
  replace H := kd_ H; rcases H with ⟨c6b0, H⟩ | ⟨c6b0, H⟩
  ·replace H := kdn_ H; obtain ⟨c7b0, H⟩ := H
   replace H := bi_ H; obtain ⟨⟨t317, t318, t319, t320⟩, A8, H⟩ := H
   (try dsimp only at H)
   replace H := kdn_ H; obtain ⟨c9b0, H⟩ := H
   obtain ⟨y321, hy_⟩ : ∃ y_ : List (S98), y_ = (x3_1.set (x4_1 : Int).toNat (⟨t317, t318, t319, t320⟩ : S98)) := ⟨_, rfl⟩
   replace H : (laws_toDoneS.l0 k1 l0 y321 (wrap64 (x4_1 + 1))) = some r := z3_
   have Ny321 := q_ hy_
   clear hy_
   have H' := q_ H
   clear H
   have p316 : 0 ≤ (x4_1 : Int) := of_decide_eq_true z2_
   have q316 : x4_1 < (l0.length : Int) := of_decide_eq_true z2_
   obtain ⟨ad316, e316, hx316_0, hx316_1, hx316_2, hx316_3⟩ := at_T122 HR0.out x4_1 p316 q316
   cases e316
   replace hx316_0 := up_ HB hx316_0
   replace hx316_1 := up_ HB hx316_1
   replace hx316_2 := up_ HB hx316_2
   replace hx316_3 := up_ HB hx316_3
   replace p316 := eq_true p316
   replace q316 := eq_true q316
   go_wp2_with (first | ((with_reducible refine gate_callee (f := 115) rfl ?_); refine goesL_ (some 20) rfl rfl Try.func115 (by kernel_rfl) rfl #[.agg #[.int .i64 ((rd_T122 l0 x4_1).f0), .int .i64 ((rd_T122 l0 x4_1).f1), .int .i64 ((rd_T122 l0 x4_1).f2), .bool ((rd_T122 l0 x4_1).f3)]] rfl z0_ ?_; (with_reducible refine (laws_toDone.calls ((rd_T122 l0 x4_1).f0) ((rd_T122 l0 x4_1).f1) ((rd_T122 l0 x4_1).f2) ((rd_T122 l0 x4_1).f3) t317 t318 t319 t320 _ A8.out).mono ?_); rintro e w11 ⟨rfl, hb⟩; refine ⟨_, rfl, ?_⟩; replace HO_3 := q_ (Kd.R_below z7_ hb); replace HB := hb_ hb; (try clear hb); (try clear hb2); (try clear hk); (try clear hi); have p10 : 0 ≤ (x4_1 : Int) := of_decide_eq_true z2_; have q10 : (x4_1 : Int) < ((x3_1.length : Int) : Int) := of_decide_eq_true z2_; obtain ⟨go10, co10, eo10, gb10, gl10, cl10, HG10⟩ := Kd.R_form HO_3.out (by omega); (first | cases eo10 | (injection eo10 with ea_ en_ ec_; (first | subst ea_ | (injection ea_ with ea_; subst ea_)); subst ec_; clear en_)); have GB10 := q_ gb10; have GG10 := q_ HG10; clear gb10 gl10 HG10; obtain ⟨ce10, hcl10, hM10, hcc10, hfr10⟩ := Kd.R_elem HO_3.out z98 (x4_1 : Int) p10 q10; obtain rfl := k98_openM hM10; have hx10_0 : w11.cell? ⟨go10, (x4_1 : Int).toNat * 4, none⟩ = some (.int .i64 ((rd_T98 x3_1 x4_1).f0)) := hcc10 0 _ rfl; have hx10_1 : w11.cell? ⟨go10, (x4_1 : Int).toNat * 4 + 1, none⟩ = some (.int .i64 ((rd_T98 x3_1 x4_1).f1)) := hcc10 1 _ rfl; have hx10_2 : w11.cell? ⟨go10, (x4_1 : Int).toNat * 4 + 2, none⟩ = some (.int .i64 ((rd_T98 x3_1 x4_1).f2)) := hcc10 2 _ rfl; have hx10_3 : w11.cell? ⟨go10, (x4_1 : Int).toNat * 4 + 3, none⟩ = some (.bool ((rd_T98 x3_1 x4_1).f3)) := hcc10 3 _ rfl; have hf10_0 : w11.frozen? ⟨go10, (x4_1 : Int).toNat * 4, none⟩ = false := hfr10 0; have hf10_1 : w11.frozen? ⟨go10, (x4_1 : Int).toNat * 4 + 1, none⟩ = false := hfr10 1; have hf10_2 : w11.frozen? ⟨go10, (x4_1 : Int).toNat * 4 + 2, none⟩ = false := hfr10 2; have hf10_3 : w11.frozen? ⟨go10, (x4_1 : Int).toNat * 4 + 3, none⟩ = false := hfr10 3; clear hcl10 hcc10 hfr10 hM10; replace p10 := eq_true p10; replace q10 := eq_true q10; have HX12 := q_ (show Kd.R k98 98 w11 w.heap.size (fun _ => True) (.slice (some ⟨go10, 0, none⟩) x3_1.length co10) x3_1 from z7_); obtain ⟨ce12, hcl12, hM12, hcc12, hfr12⟩ := Kd.R_elem HX12.out z98 (x4_1 : Int) (of_decide_eq_true z2_) z87_; obtain rfl := k98_openM hM12; have HP12 := Kd.R_seg HX12.out (x4_1 : Int) (of_decide_eq_true z2_) z87_ (seg := [.int .i64 t317, .int .i64 t318, .int .i64 t319, .bool t320]) (j := 0) hcl12 hcc12 (show 4 ≤ 4 from by decide) (x' := (⟨t317, t318, t319, t320⟩ : S98)) (k98_mkM _ _ _ (⟨t317, t318, t319, t320⟩ : S98) ) (fun _ hk => hk); have hx12_0 := hcc12 0 _ rfl; (try simp only [show (k98).sz = 4 from rfl, Nat.mul_one, Nat.add_zero] at hx12_0); have hf12_0 := hfr12 0; (try simp only [show (k98).sz = 4 from rfl, Nat.mul_one, Nat.add_zero] at hf12_0); have hx12_1 := hcc12 1 _ rfl; (try simp only [show (k98).sz = 4 from rfl, Nat.mul_one, Nat.add_zero] at hx12_1); have hf12_1 := hfr12 1; (try simp only [show (k98).sz = 4 from rfl, Nat.mul_one, Nat.add_zero] at hf12_1); have hx12_2 := hcc12 2 _ rfl; (try simp only [show (k98).sz = 4 from rfl, Nat.mul_one, Nat.add_zero] at hx12_2); have hf12_2 := hfr12 2; (try simp only [show (k98).sz = 4 from rfl, Nat.mul_one, Nat.add_zero] at hf12_2); have hx12_3 := hcc12 3 _ rfl; (try simp only [show (k98).sz = 4 from rfl, Nat.mul_one, Nat.add_zero] at hx12_3); have hf12_3 := hfr12 3; (try simp only [show (k98).sz = 4 from rfl, Nat.mul_one, Nat.add_zero] at hf12_3); clear hcl12 hcc12 hfr12 hM12) | ((with_reducible refine gate_store (t := 98) (p := 21) rfl ?_); refine store_event (t := 98) (p := 21) (v := ?vo_w13) (w1 := ((((w11.setCell ⟨go10, (x4_1 : Int).toNat * 4, none⟩ (.int .i64 t317)).setCell ⟨go10, (x4_1 : Int).toNat * 4 + 1, none⟩ (.int .i64 t318)).setCell ⟨go10, (x4_1 : Int).toNat * 4 + 2, none⟩ (.int .i64 t319)).setCell ⟨go10, (x4_1 : Int).toNat * 4 + 3, none⟩ (.bool t320))) ?hg ?ho ?hn ?hr ?_; (case ho => rfl); (case hg => rfl); (case hn => rfl); (case hr => exact z92_); intro w13 hw; have hg : w11.grownBy w13 (some go10) := z86_; have hp_ : Kd.R k98 98 w13 w.heap.size (fun _ => True) (.slice (some ⟨go10, 0, none⟩) x3_1.length co10) y321 := (by rw [hw, Ny321.out]; exact HP12.1); clear HP12; replace HO_3 := q_ (hp_); replace HB := q_ ((by rw [hw]; exact below_set (below_set (below_set (below_set (HB.out) GB10.out) GB10.out) GB10.out) GB10.out : Below w.heap.size w w13)); clear hg hw hp_))
   go_roundg k1
   case measure => have := HK1.out; omega
   case rel => exact ⟨(y321), (wrap64 (x4_1 + 1)), z4_, H', ⟨z37_⟩, ⟨z7_⟩, ⟨cb_⟩⟩
  ·obtain rfl := si_ H
   go_wp2
   go_ret
   exact ⟨_, z1_, z7_, cb_⟩

end Go.Proofs.Ytfnndcpaldkkoaa.PFnExactMachineSame
