-- Written by a program of this session, which goes by the kit's print. Not trusted: Lean checks it.
import Derived.Test.YtfnndcpaldkkoaaPFnExactTreeRangex0
import Derived.Test.YtfnndcpaldkkoaaPFnExactTreeRangex1
namespace Go.Proofs.Ytfnndcpaldkkoaa.PFnExactTreeRange
open Go.RowKit Go.Proofs.YtfnndcpaldkkoaaW.PrintWords Go.Proofs.YtfnndcpaldkkoaaW.PrintLast Go.Proofs.YtfnndcpaldkkoaaW.PrintMore
attribute [local go_sem] Instr.field asAgg max2_int min2_int max_two min_two max_three min_three max_four min_four   -- for this text's walks alone
set_option linter.unusedVariables false
set_option linter.unusedSimpArgs false

mutual
def laws_toTreeS.l0 : Nat → List (S27) → List (S34) → Int → Option ((List (S34)))
 | 0, _, _, _ => none
 | k + 1, x0, x3, x4 => if x4 < (x0.length : Int) then (if 0 ≤ x4 then ((laws_toTree.f k ((rd_T27 x0 x4).f0) ((rd_T27 x0 x4).f1) ((rd_T27 x0 x4).f2) ((rd_T27 x0 x4).f3) ((rd_T27 x0 x4).f4)).bind fun bt138 => (if x4 < (x3.length : Int) then (laws_toTreeS.l0 k x0 (x3.set (x4 : Int).toNat (⟨bt138.1, bt138.2.1, bt138.2.2.1, bt138.2.2.2.1, bt138.2.2.2.2⟩ : S34)) (wrap64 (x4 + 1))) else (none))) else (none)) else (some x3)
def laws_toTreeS.f : Nat → List (S27) → Option ((List (S34)))
 | 0, _ => none
 | k + 1, l0 => if 0 ≤ (l0.length : Int) then (if ((l0.length : Int) : Int).toNat ≤ 2706490160679 then (laws_toTreeS.l0 k l0 (List.replicate ((l0.length : Int) : Int).toNat z34) 0) else (none)) else (none)
def laws_toTree.f : Nat → Bool → List (S107) → List Int → List (S27) → List (S109) → Option (Bool × (List (S92)) × List Int × (List (S34)) × (List (S72)))
 | 0, _, _, _, _, _ => none
 | k + 1, a0_0, l0_1, l0_2, l0_3, l0_4 => (laws_toPairS.f k l0_1).bind fun t155 => ((laws_toIntS.f k l0_2).bind fun t158 => ((laws_toTreeS.f k l0_3).bind fun t161 => ((laws_toMsgS.f k l0_4).bind fun t164 => (some (a0_0, t155, t158, t161, t164)))))
end
theorem laws_toTreeS.all_mono : ∀ k, (∀ y0, LeO (laws_toTreeS.f k y0) (laws_toTreeS.f (k + 1) y0)) ∧ (∀ y0 y1 y2, LeO (laws_toTreeS.l0 k y0 y1 y2) (laws_toTreeS.l0 (k + 1) y0 y1 y2)) ∧ (∀ y0 y1 y2 y3 y4, LeO (laws_toTree.f k y0 y1 y2 y3 y4) (laws_toTree.f (k + 1) y0 y1 y2 y3 y4))
 | 0 => ⟨fun _ r h => by simp [laws_toTreeS.f] at h, fun _ _ _ r h => by simp [laws_toTreeS.l0] at h, fun _ _ _ _ _ r h => by simp [laws_toTree.f] at h⟩
 | k + 1 => by
  obtain ⟨ih0, ih1, ih2⟩ := laws_toTreeS.all_mono k
  refine ⟨?_, ?_, ?_⟩
  ·intro y0
   unfold laws_toTreeS.f
   have m0 := @laws_toIntS.mono
   have m1 := @laws_toMsgS.mono
   have m2 := @laws_toPairS.mono
   exact zm_
  ·intro y0 y1 y2
   unfold laws_toTreeS.l0
   have m0 := @laws_toIntS.mono
   have m1 := @laws_toMsgS.mono
   have m2 := @laws_toPairS.mono
   exact zm_
  ·intro y0 y1 y2 y3 y4
   unfold laws_toTree.f
   have m0 := @laws_toIntS.mono
   have m1 := @laws_toMsgS.mono
   have m2 := @laws_toPairS.mono
   exact zm_
theorem laws_toTreeS.mono : ∀ a0 k, LeO (laws_toTreeS.f k a0) (laws_toTreeS.f (k + 1) a0) := fun a0 k => (laws_toTreeS.all_mono k).1 a0
theorem laws_toTreeS.mono_l0 : ∀ k, ∀ y0 y1 y2, LeO (laws_toTreeS.l0 k y0 y1 y2) (laws_toTreeS.l0 (k + 1) y0 y1 y2) := fun k => (laws_toTreeS.all_mono k).2.1
theorem laws_toTree.mono : ∀ a0 a1 a2 a3 a4 k, LeO (laws_toTree.f k a0 a1 a2 a3 a4) (laws_toTree.f (k + 1) a0 a1 a2 a3 a4) := fun a0 a1 a2 a3 a4 k => (laws_toTreeS.all_mono k).2.2 a0 a1 a2 a3 a4
/-! ### laws_toTreeS: function 62 -/
set_option maxHeartbeats 8000000 in
set_option maxRecDepth 100000 in
theorem laws_toTreeS.step (k : Nat) (ih : ∀ m_, m_ < k → ∀ (A0 : Option Addr) (c0 : Nat) (l0 : List (S27)) (r : List (S34)) (w : World) (hr0 : Kd.C k27 w A0 l0.length l0) (hc0 : l0.length ≤ c0) (h : laws_toTreeS.f m_ l0 = some r),
  Calls Try.prog 62 #[.slice A0 l0.length c0] w fun e w' => ∃ v0_ : Value, e = .returned (v0_) ∧ Kd.R k34 34 w' w.heap.size (fun _ => True) v0_ r ∧ Below w.heap.size w w') (ih_laws_toTree : ∀ m_, m_ < k → ∀ (a0_0 : Bool) (A0_1 : Option Addr) (c0_1 : Nat) (l0_1 : List (S107)) (A0_2 : Option Addr) (c0_2 : Nat) (l0_2 : List Int) (A0_3 : Option Addr) (c0_3 : Nat) (l0_3 : List (S27)) (A0_4 : Option Addr) (c0_4 : Nat) (l0_4 : List (S109)) (r1 : Bool) (r2 : List (S92)) (r3 : List Int) (r4 : List (S34)) (r5 : List (S72)) (w : World) (hr0_1 : Kd.C k107 w A0_1 l0_1.length l0_1) (hc0_1 : l0_1.length ≤ c0_1) (hr0_2 : Kd.C (Kd.int .i64) w A0_2 l0_2.length l0_2) (hc0_2 : l0_2.length ≤ c0_2) (hr0_3 : Kd.C k27 w A0_3 l0_3.length l0_3) (hc0_3 : l0_3.length ≤ c0_3) (hr0_4 : Kd.C k109 w A0_4 l0_4.length l0_4) (hc0_4 : l0_4.length ≤ c0_4) (h : laws_toTree.f m_ a0_0 l0_1 l0_2 l0_3 l0_4 = some (r1, r2, r3, r4, r5)),
  Calls Try.prog 17 #[.agg #[.bool a0_0, .slice A0_1 l0_1.length c0_1, .slice A0_2 l0_2.length c0_2, .slice A0_3 l0_3.length c0_3, .slice A0_4 l0_4.length c0_4]] w fun e w' => ∃ v1_ v2_ v3_ v4_ : Value, e = .returned (.agg #[.bool r1, v1_, v2_, v3_, v4_]) ∧ Kd.R k92 92 w' w.heap.size (fun _ => True) v1_ r2 ∧ Kd.R (Kd.int .i64) 3 w' w.heap.size (fun _ => True) v2_ r3 ∧ Kd.R k34 34 w' w.heap.size (fun k_ => some k_ ≠ (v1_ : Value).ownBlock ∧ some k_ ≠ (v2_ : Value).ownBlock ∧ some k_ ≠ (v4_ : Value).ownBlock) v3_ r4 ∧ Kd.R k72 72 w' w.heap.size (fun _ => True) v4_ r5 ∧ Below w.heap.size w w') : ∀ (A0 : Option Addr) (c0 : Nat) (l0 : List (S27)) (r : List (S34)) (w : World) (hr0 : Kd.C k27 w A0 l0.length l0) (hc0 : l0.length ≤ c0) (h : laws_toTreeS.f k l0 = some r),
  Calls Try.prog 62 #[.slice A0 l0.length c0] w fun e w' => ∃ v0_ : Value, e = .returned (v0_) ∧ Kd.R k34 34 w' w.heap.size (fun _ => True) v0_ r ∧ Below w.heap.size w w' := by
 intro A0 c0 l0 r w hr0 hc0 h
 cases k with
 | zero => exact absurd h (by simp [laws_toTreeS.f])
 | succ k =>
 simp only [laws_toTreeS.f] at h
 have hu27 := Try.underlying27
 have hu34 := Try.underlying34
 have HR0 := q_ hr0
 have HC0 := q_ hc0
 clear hr0 hc0
 have HB := q_ (Below.refl w.heap.size w)
 have H := h; clear h
 replace H := ktn_ H; obtain ⟨c2b0, c2b1, H⟩ := H
 replace H := ktn_ H; obtain ⟨c3b0, c3b1, H⟩ := H
 obtain ⟨y134, hy_⟩ : ∃ y_ : List (S34), y_ = (List.replicate ((l0.length : Int) : Int).toNat z34) := ⟨_, rfl⟩
 replace H : (laws_toTreeS.l0 k l0 y134 0) = some r := z3_
 have Ny134 := q_ hy_
 clear hy_
 have H' := q_ H
 clear H
 go_enter Try.func62, Try.ntmps62
 go_wp2_with (first | ((with_reducible refine gate_dst (N := 7) rfl ?_); refine Kd.R_make k34 _ 34 rfl (N := 7) rfl 31 _ _ rfl (l0.length : Int) rfl rfl Try.underlying31 (.agg #[(.bool false), (.slice none 0 0), (.slice none 0 0), (.slice none 0 0), (.slice none 0 0)]) 104 info34 rfl (by decide) (by omega) z34 (ok := fun _ => True) (okp := fun _ => True) (k34_mkM _ _ _ z34 (Kd.R_nil _ _ _ _ _) (Kd.R_nil _ _ _ _ _) (Kd.R_nil _ _ _ _ _) (Kd.R_nil _ _ _ _ _)) (fun _ hk => hk) trivial (of_decide_eq_true z1_) (Nat.le_trans (Nat.mul_le_mul_right _ (of_decide_eq_true z1_ : (l0.length : Int).toNat ≤ 2706490160679)) (by omega)) (Below.refl _ _) (Nat.le_refl _) ?_; intro v135 w4 ho5 hb hg_ hnew_; clear hg_ hnew_; (first | rw [← Ny134.out] at ho5 | (simp only [Int.reduceToNat] at ho5; rw [← Ny134.out] at ho5)); have HO136 := q_ (Kd.R_lower ho5 (below_size cb_)); replace HB := hb_ hb; clear hb ho5))
 go_loopg [4] k (fun kq v4 w' => ∃ (x3_1 : List (S34)) (x4_1 : Int), v4 = .int .i64 x4_1 ∧ Aside0 (laws_toTreeS.l0 kq l0 x3_1 x4_1 = some r) ∧ Aside0 (kq ≤ k) ∧ Aside0 (Kd.R k34 34 w' w.heap.size (fun _ => True) v135 x3_1) ∧ Aside0 (Below w.heap.size w w'))
 case atStart => exact ⟨(y134), (0), z4_, H', ⟨Nat.le_refl _⟩, ⟨by (with_reducible repeat (first | apply Kd.R_alloc | apply Kd.R_drewN | apply Kd.R_drew)); exact HO136.out⟩, ⟨cb_⟩⟩
 case round =>
  clear H'
  try clear c2
  try clear c2b0
  try clear c2b1
  try clear p2
  try clear c3
  try clear c3b0
  try clear c3b1
  obtain ⟨x3_1, x4_1, rfl, HA, HK1, HO_3, HB⟩ := hrel
  obtain ⟨k1, rfl, H⟩ := rn_ (k := gk) HA (by rintro rfl; simp only [laws_toTreeS.l0])
  clear HA
  simp only [laws_toTreeS.l0] at H
  replace H := kd_ H; rcases H with ⟨c6b0, H⟩ | ⟨c6b0, H⟩
  ·replace H := kdn_ H; obtain ⟨c7b0, H⟩ := H
   replace H := bi_ H; obtain ⟨⟨t138, t139, t142, t145, t148⟩, A8, H⟩ := H
   (try dsimp only at H)
   replace H := kdn_ H; obtain ⟨c9b0, H⟩ := H
   obtain ⟨y151, hy_⟩ : ∃ y_ : List (S34), y_ = (x3_1.set (x4_1 : Int).toNat (⟨t138, t139, t142, t145, t148⟩ : S34)) := ⟨_, rfl⟩
   replace H : (laws_toTreeS.l0 k1 l0 y151 (wrap64 (x4_1 + 1))) = some r := z3_
   have Ny151 := q_ hy_
   clear hy_
   have H' := q_ H
   clear H
   have p137 : 0 ≤ (x4_1 : Int) := of_decide_eq_true z1_
   have q137 : x4_1 < (l0.length : Int) := of_decide_eq_true z1_
   obtain ⟨ad137, A137_1, c137_1, A137_2, c137_2, A137_3, c137_3, A137_4, c137_4, e137, hx137_0, hx137_1, hx137_2, hx137_3, hx137_4, hl137_1, hi137_1, hl137_2, hi137_2, hl137_3, hi137_3, hl137_4, hi137_4⟩ := at_T27 HR0.out x4_1 p137 q137
   cases e137
   replace hx137_0 := up_ HB hx137_0
   replace hx137_1 := up_ HB hx137_1
   replace hx137_2 := up_ HB hx137_2
   replace hx137_3 := up_ HB hx137_3
   replace hx137_4 := up_ HB hx137_4
   have HR137_1 := q_ hi137_1
   have HC137_1 := q_ hl137_1
   clear hi137_1 hl137_1
   have HR137_2 := q_ hi137_2
   have HC137_2 := q_ hl137_2
   clear hi137_2 hl137_2
   have HR137_3 := q_ hi137_3
   have HC137_3 := q_ hl137_3
   clear hi137_3 hl137_3
   have HR137_4 := q_ hi137_4
   have HC137_4 := q_ hl137_4
   clear hi137_4 hl137_4
   replace p137 := eq_true p137
   replace q137 := eq_true q137
   go_wp2_with (first | ((with_reducible refine gate_callee (f := 17) rfl ?_); refine goesL_ (some 20) rfl rfl Try.func17 (by kernel_rfl) rfl #[.agg #[.bool ((rd_T27 l0 x4_1).f0), .slice A137_1 ((rd_T27 l0 x4_1).f1).length c137_1, .slice A137_2 ((rd_T27 l0 x4_1).f2).length c137_2, .slice A137_3 ((rd_T27 l0 x4_1).f3).length c137_3, .slice A137_4 ((rd_T27 l0 x4_1).f4).length c137_4]] rfl z0_ ?_; (with_reducible refine (ih_laws_toTree k1 z25_ ((rd_T27 l0 x4_1).f0) _ _ ((rd_T27 l0 x4_1).f1) _ _ ((rd_T27 l0 x4_1).f2) _ _ ((rd_T27 l0 x4_1).f3) _ _ ((rd_T27 l0 x4_1).f4) t138 t139 t142 t145 t148 _ ?side1 ?side2 ?side3 ?side4 ?side5 ?side6 ?side7 ?side8 A8.out).mono ?_); (case side1 => repeat (first | exact (Kd.C_below HR137_1.out HB.out) | (with_reducible refine Kd.C_alloc ?_ _) | (with_reducible refine Kd.C_drewN ?_ _) | (with_reducible refine Kd.C_drew ?_))); (case side2 => exact HC137_1.out); (case side3 => repeat (first | exact (Kd.C_below HR137_2.out HB.out) | (with_reducible refine Kd.C_alloc ?_ _) | (with_reducible refine Kd.C_drewN ?_ _) | (with_reducible refine Kd.C_drew ?_))); (case side4 => exact HC137_2.out); (case side5 => repeat (first | exact (Kd.C_below HR137_3.out HB.out) | (with_reducible refine Kd.C_alloc ?_ _) | (with_reducible refine Kd.C_drewN ?_ _) | (with_reducible refine Kd.C_drew ?_))); (case side6 => exact HC137_3.out); (case side7 => repeat (first | exact (Kd.C_below HR137_4.out HB.out) | (with_reducible refine Kd.C_alloc ?_ _) | (with_reducible refine Kd.C_drewN ?_ _) | (with_reducible refine Kd.C_drew ?_))); (case side8 => exact HC137_4.out); rintro e w11 ⟨v140, v143, v146, v149, rfl, ho0, ho1, ho2, ho3, hb⟩; refine ⟨_, rfl, ?_⟩; have HO141 := q_ (Kd.R_lower ho0 (below_size cb_)); have HO144 := q_ (Kd.R_lower ho1 (below_size cb_)); have HO147 := q_ (Kd.R_lower (Kd.R_new' ho2 (Kd.R_lt z8_)) (below_size cb_)); replace HO_3 := q_ (Kd.R_mono (Kd.R_told (Kd.R_told (Kd.R_told (Kd.R_told (Kd.R_old z8_ hb) (Kd.R_base ho0)) (Kd.R_base ho1)) (Kd.R_base ho2)) (Kd.R_base ho3)) (fun _ h_ => h_.1)); have HO150 := q_ (Kd.R_lower ho3 (below_size cb_)); replace HB := hb_ hb; (try clear hb); (try clear hb2); (try clear hk); (try clear hi); (try clear ho0); (try clear ho1); (try clear ho2); (try clear ho3); have p10 : 0 ≤ (x4_1 : Int) := of_decide_eq_true z1_; have q10 : (x4_1 : Int) < ((x3_1.length : Int) : Int) := of_decide_eq_true z1_; obtain ⟨go10, co10, eo10, gb10, gl10, cl10, HG10⟩ := Kd.R_form HO_3.out (by omega); (first | cases eo10 | (injection eo10 with ea_ en_ ec_; (first | subst ea_ | (injection ea_ with ea_; subst ea_)); subst ec_; clear en_)); have GB10 := q_ gb10; have GG10 := q_ HG10; clear gb10 gl10 HG10; obtain ⟨ce10, hcl10, hM10, hcc10, hfr10⟩ := Kd.R_elem HO_3.out z34 (x4_1 : Int) p10 q10; obtain ⟨ve10_1, ve10_2, ve10_3, ve10_4, rfl, ge10_1, ge10_2, ge10_3, ge10_4⟩ := k34_openM hM10; have hx10_0 : w11.cell? ⟨go10, (x4_1 : Int).toNat * 5, none⟩ = some (.bool ((rd_T34 x3_1 x4_1).f0)) := hcc10 0 _ rfl; have hx10_1 : w11.cell? ⟨go10, (x4_1 : Int).toNat * 5 + 1, none⟩ = some (ve10_1) := hcc10 1 _ rfl; have hx10_2 : w11.cell? ⟨go10, (x4_1 : Int).toNat * 5 + 2, none⟩ = some (ve10_2) := hcc10 2 _ rfl; have hx10_3 : w11.cell? ⟨go10, (x4_1 : Int).toNat * 5 + 3, none⟩ = some (ve10_3) := hcc10 3 _ rfl; have hx10_4 : w11.cell? ⟨go10, (x4_1 : Int).toNat * 5 + 4, none⟩ = some (ve10_4) := hcc10 4 _ rfl; have hf10_0 : w11.frozen? ⟨go10, (x4_1 : Int).toNat * 5, none⟩ = false := hfr10 0; have hf10_1 : w11.frozen? ⟨go10, (x4_1 : Int).toNat * 5 + 1, none⟩ = false := hfr10 1; have hf10_2 : w11.frozen? ⟨go10, (x4_1 : Int).toNat * 5 + 2, none⟩ = false := hfr10 2; have hf10_3 : w11.frozen? ⟨go10, (x4_1 : Int).toNat * 5 + 3, none⟩ = false := hfr10 3; have hf10_4 : w11.frozen? ⟨go10, (x4_1 : Int).toNat * 5 + 4, none⟩ = false := hfr10 4; clear hcl10 hcc10 hfr10 hM10; replace p10 := eq_true p10; replace q10 := eq_true q10; have n_ := q_ (Kd.R_mono (ok' := (fun k_ => some k_ ≠ (v140 : Value).ownBlock ∧ some k_ ≠ (v143 : Value).ownBlock ∧ some k_ ≠ (v146 : Value).ownBlock ∧ some k_ ≠ (v149 : Value).ownBlock)) HO_3.out (fun k_ hk => ⟨hk.1.1.1.2, ⟨hk.1.1.2, ⟨hk.1.2, hk.2⟩⟩⟩)); clear HO_3; have HO_3 := n_; clear n_; obtain ⟨Ao14, co14, eo14⟩ := Kd.R_slice HO141.out; subst eo14; obtain ⟨Ao15, co15, eo15⟩ := Kd.R_slice HO144.out; subst eo15; obtain ⟨Ao16, co16, eo16⟩ := Kd.R_slice HO147.out; subst eo16; obtain ⟨Ao17, co17, eo17⟩ := Kd.R_slice HO150.out; subst eo17; have HX12 := q_ (show Kd.R k34 34 w11 w.heap.size (fun _ => True) (.slice (some ⟨go10, 0, none⟩) x3_1.length co10) x3_1 from (by (with_reducible repeat (first | apply Kd.R_alloc | apply Kd.R_drewN | apply Kd.R_drew)); exact Kd.R_mono HO_3.out (fun _ hk => trivial))); obtain ⟨ce12, hcl12, hM12, hcc12, hfr12⟩ := Kd.R_elem HX12.out z34 (x4_1 : Int) (of_decide_eq_true z1_) z91_; obtain ⟨ve12_1, ve12_2, ve12_3, ve12_4, rfl, ge12_1, ge12_2, ge12_3, ge12_4⟩ := k34_openM hM12; have HP12 := Kd.R_seg HX12.out (x4_1 : Int) (of_decide_eq_true z1_) z91_ (seg := [.bool t138, .slice Ao14 t139.length co14, .slice Ao15 t142.length co15, .slice Ao16 t145.length co16, .slice Ao17 t148.length co17]) (j := 0) hcl12 hcc12 (show 5 ≤ 5 from by decide) (x' := (⟨t138, t139, t142, t145, t148⟩ : S34)) (k34_mkM _ _ _ (⟨t138, t139, t142, t145, t148⟩ : S34) (Kd.R_mono (Kd.R_apart' (HO141.out) (Kd.R_typed HO_3.out) (by decide)) (fun k_ hk => ⟨trivial, fun e_ => (hk.2) (by rw [e_]; rfl)⟩)) (Kd.R_mono (Kd.R_apart' (HO144.out) (Kd.R_typed HO_3.out) (by decide)) (fun k_ hk => ⟨trivial, fun e_ => (hk.2) (by rw [e_]; rfl)⟩)) (Kd.R_mono (HO147.out) (fun k_ hk => ⟨trivial, fun e_ => (hk.2) (by rw [e_]; rfl)⟩)) (Kd.R_mono (Kd.R_apart' (HO150.out) (Kd.R_typed HO_3.out) (by decide)) (fun k_ hk => ⟨trivial, fun e_ => (hk.2) (by rw [e_]; rfl)⟩))) (fun _ hk => hk); have hx12_0 := hcc12 0 _ rfl; (try simp only [show (k34).sz = 5 from rfl, Nat.mul_one, Nat.add_zero] at hx12_0); have hf12_0 := hfr12 0; (try simp only [show (k34).sz = 5 from rfl, Nat.mul_one, Nat.add_zero] at hf12_0); have hx12_1 := hcc12 1 _ rfl; (try simp only [show (k34).sz = 5 from rfl, Nat.mul_one, Nat.add_zero] at hx12_1); have hf12_1 := hfr12 1; (try simp only [show (k34).sz = 5 from rfl, Nat.mul_one, Nat.add_zero] at hf12_1); have hx12_2 := hcc12 2 _ rfl; (try simp only [show (k34).sz = 5 from rfl, Nat.mul_one, Nat.add_zero] at hx12_2); have hf12_2 := hfr12 2; (try simp only [show (k34).sz = 5 from rfl, Nat.mul_one, Nat.add_zero] at hf12_2); have hx12_3 := hcc12 3 _ rfl; (try simp only [show (k34).sz = 5 from rfl, Nat.mul_one, Nat.add_zero] at hx12_3); have hf12_3 := hfr12 3; (try simp only [show (k34).sz = 5 from rfl, Nat.mul_one, Nat.add_zero] at hf12_3); have hx12_4 := hcc12 4 _ rfl; (try simp only [show (k34).sz = 5 from rfl, Nat.mul_one, Nat.add_zero] at hx12_4); have hf12_4 := hfr12 4; (try simp only [show (k34).sz = 5 from rfl, Nat.mul_one, Nat.add_zero] at hf12_4); clear hcl12 hcc12 hfr12 hM12) | ((with_reducible refine gate_store (t := 34) (p := 21) rfl ?_); refine store_event (t := 34) (p := 21) (v := ?vo_w13) (w1 := (((((w11.setCell ⟨go10, (x4_1 : Int).toNat * 5, none⟩ (.bool t138)).setCell ⟨go10, (x4_1 : Int).toNat * 5 + 1, none⟩ (.slice Ao14 t139.length co14)).setCell ⟨go10, (x4_1 : Int).toNat * 5 + 2, none⟩ (.slice Ao15 t142.length co15)).setCell ⟨go10, (x4_1 : Int).toNat * 5 + 3, none⟩ (.slice Ao16 t145.length co16)).setCell ⟨go10, (x4_1 : Int).toNat * 5 + 4, none⟩ (.slice Ao17 t148.length co17))) ?hg ?ho ?hn ?hr ?_; (case ho => rfl); (case hg => rfl); (case hn => rfl); (case hr => exact z95_); intro w13 hw; have hg : w11.grownBy w13 (some go10) := (by rw [hw]; exact HP12.2); have hp_ : Kd.R k34 34 w13 w.heap.size (fun _ => True) (.slice (some ⟨go10, 0, none⟩) x3_1.length co10) y151 := (by rw [hw, Ny151.out]; exact HP12.1); clear HP12; replace HO_3 := q_ (hp_); replace HB := q_ ((by rw [hw]; exact below_set (below_set (below_set (below_set (below_set (HB.out) GB10.out) GB10.out) GB10.out) GB10.out) GB10.out : Below w.heap.size w w13)); clear HO141 HO144 HO147 HO150; clear hg hw hp_))
   go_roundg k1
   case measure => have := HK1.out; omega
   case rel => exact ⟨(y151), (wrap64 (x4_1 + 1)), z4_, H', ⟨z25_⟩, ⟨z8_⟩, ⟨cb_⟩⟩
  ·obtain rfl := si_ H
   go_wp2
   go_ret
   exact ⟨_, z2_, z8_, cb_⟩

/-! ### laws_toTree: function 17 -/
set_option maxHeartbeats 8000000 in
set_option maxRecDepth 100000 in
theorem laws_toTree.step (k : Nat) (ih_laws_toTreeS : ∀ m_, m_ < k → ∀ (A0 : Option Addr) (c0 : Nat) (l0 : List (S27)) (r : List (S34)) (w : World) (hr0 : Kd.C k27 w A0 l0.length l0) (hc0 : l0.length ≤ c0) (h : laws_toTreeS.f m_ l0 = some r),
  Calls Try.prog 62 #[.slice A0 l0.length c0] w fun e w' => ∃ v0_ : Value, e = .returned (v0_) ∧ Kd.R k34 34 w' w.heap.size (fun _ => True) v0_ r ∧ Below w.heap.size w w') (ih : ∀ m_, m_ < k → ∀ (a0_0 : Bool) (A0_1 : Option Addr) (c0_1 : Nat) (l0_1 : List (S107)) (A0_2 : Option Addr) (c0_2 : Nat) (l0_2 : List Int) (A0_3 : Option Addr) (c0_3 : Nat) (l0_3 : List (S27)) (A0_4 : Option Addr) (c0_4 : Nat) (l0_4 : List (S109)) (r1 : Bool) (r2 : List (S92)) (r3 : List Int) (r4 : List (S34)) (r5 : List (S72)) (w : World) (hr0_1 : Kd.C k107 w A0_1 l0_1.length l0_1) (hc0_1 : l0_1.length ≤ c0_1) (hr0_2 : Kd.C (Kd.int .i64) w A0_2 l0_2.length l0_2) (hc0_2 : l0_2.length ≤ c0_2) (hr0_3 : Kd.C k27 w A0_3 l0_3.length l0_3) (hc0_3 : l0_3.length ≤ c0_3) (hr0_4 : Kd.C k109 w A0_4 l0_4.length l0_4) (hc0_4 : l0_4.length ≤ c0_4) (h : laws_toTree.f m_ a0_0 l0_1 l0_2 l0_3 l0_4 = some (r1, r2, r3, r4, r5)),
  Calls Try.prog 17 #[.agg #[.bool a0_0, .slice A0_1 l0_1.length c0_1, .slice A0_2 l0_2.length c0_2, .slice A0_3 l0_3.length c0_3, .slice A0_4 l0_4.length c0_4]] w fun e w' => ∃ v1_ v2_ v3_ v4_ : Value, e = .returned (.agg #[.bool r1, v1_, v2_, v3_, v4_]) ∧ Kd.R k92 92 w' w.heap.size (fun _ => True) v1_ r2 ∧ Kd.R (Kd.int .i64) 3 w' w.heap.size (fun _ => True) v2_ r3 ∧ Kd.R k34 34 w' w.heap.size (fun k_ => some k_ ≠ (v1_ : Value).ownBlock ∧ some k_ ≠ (v2_ : Value).ownBlock ∧ some k_ ≠ (v4_ : Value).ownBlock) v3_ r4 ∧ Kd.R k72 72 w' w.heap.size (fun _ => True) v4_ r5 ∧ Below w.heap.size w w') : ∀ (a0_0 : Bool) (A0_1 : Option Addr) (c0_1 : Nat) (l0_1 : List (S107)) (A0_2 : Option Addr) (c0_2 : Nat) (l0_2 : List Int) (A0_3 : Option Addr) (c0_3 : Nat) (l0_3 : List (S27)) (A0_4 : Option Addr) (c0_4 : Nat) (l0_4 : List (S109)) (r1 : Bool) (r2 : List (S92)) (r3 : List Int) (r4 : List (S34)) (r5 : List (S72)) (w : World) (hr0_1 : Kd.C k107 w A0_1 l0_1.length l0_1) (hc0_1 : l0_1.length ≤ c0_1) (hr0_2 : Kd.C (Kd.int .i64) w A0_2 l0_2.length l0_2) (hc0_2 : l0_2.length ≤ c0_2) (hr0_3 : Kd.C k27 w A0_3 l0_3.length l0_3) (hc0_3 : l0_3.length ≤ c0_3) (hr0_4 : Kd.C k109 w A0_4 l0_4.length l0_4) (hc0_4 : l0_4.length ≤ c0_4) (h : laws_toTree.f k a0_0 l0_1 l0_2 l0_3 l0_4 = some (r1, r2, r3, r4, r5)),
  Calls Try.prog 17 #[.agg #[.bool a0_0, .slice A0_1 l0_1.length c0_1, .slice A0_2 l0_2.length c0_2, .slice A0_3 l0_3.length c0_3, .slice A0_4 l0_4.length c0_4]] w fun e w' => ∃ v1_ v2_ v3_ v4_ : Value, e = .returned (.agg #[.bool r1, v1_, v2_, v3_, v4_]) ∧ Kd.R k92 92 w' w.heap.size (fun _ => True) v1_ r2 ∧ Kd.R (Kd.int .i64) 3 w' w.heap.size (fun _ => True) v2_ r3 ∧ Kd.R k34 34 w' w.heap.size (fun k_ => some k_ ≠ (v1_ : Value).ownBlock ∧ some k_ ≠ (v2_ : Value).ownBlock ∧ some k_ ≠ (v4_ : Value).ownBlock) v3_ r4 ∧ Kd.R k72 72 w' w.heap.size (fun _ => True) v4_ r5 ∧ Below w.heap.size w w' := by
 intro a0_0 A0_1 c0_1 l0_1 A0_2 c0_2 l0_2 A0_3 c0_3 l0_3 A0_4 c0_4 l0_4 r1 r2 r3 r4 r5 w hr0_1 hc0_1 hr0_2 hc0_2 hr0_3 hc0_3 hr0_4 hc0_4 h
 cases k with
 | zero => exact absurd h (by simp [laws_toTree.f])
 | succ k =>
 simp only [laws_toTree.f] at h
 have hu27 := Try.underlying27
 have hu34 := Try.underlying34
 have HR0_1 := q_ hr0_1
 have HC0_1 := q_ hc0_1
 clear hr0_1 hc0_1
 have HR0_2 := q_ hr0_2
 have HC0_2 := q_ hc0_2
 clear hr0_2 hc0_2
 have HR0_3 := q_ hr0_3
 have HC0_3 := q_ hc0_3
 clear hr0_3 hc0_3
 have HR0_4 := q_ hr0_4
 have HC0_4 := q_ hc0_4
 clear hr0_4 hc0_4
 have HB := q_ (Below.refl w.heap.size w)
 have H := h; clear h
 replace H := bi_ H; obtain ⟨t155, A2, H⟩ := H
 replace H := bi_ H; obtain ⟨t158, A3, H⟩ := H
 replace H := bi_ H; obtain ⟨t161, A4, H⟩ := H
 replace H := bi_ H; obtain ⟨t164, A5, H⟩ := H
 simp only [Option.some.injEq, Prod.mk.injEq] at H
 obtain ⟨rfl, rfl, rfl, rfl, rfl⟩ := H
 go_enter Try.func17, Try.ntmps17
 go_wp2_with (first | ((with_reducible refine gate_dst (N := 1) rfl ?_); refine box_event ?hg (N := 1) ?hd (cs := #[.bool a0_0, .slice A0_1 l0_1.length c0_1, .slice A0_2 l0_2.length c0_2, .slice A0_3 l0_3.length c0_3, .slice A0_4 l0_4.length c0_4]) (t := 27) ?hr ?_; (case hd => rfl); (case hg => rfl); (case hr => exact z95_); intro gb152 hg w6 hbox hb; have BK152 := q_ (hbox); have GW152 := ge_ hg; have GE152 := ge_ hg; replace HB := hb_ hb; clear hb hbox hg) | ((with_reducible refine gate_dst (N := 2) rfl ?_); refine box_event ?hg (N := 2) ?hd (cs := #[.bool false, .slice none 0 0, .slice none 0 0, .slice none 0 0, .slice none 0 0]) (t := 34) ?hr ?_; (case hd => rfl); (case hg => rfl); (case hr => exact z95_); intro gb153 hg w7 hbox hb; have BK153 := q_ (hbox); have GW153 := ge_ hg; have GE153 := ge_ hg; replace HB := hb_ hb; have NB152_153 := nl_ hg BK152; have NB153_152 := nr_ hg BK152; replace BK152 := rb_ BK152 hb; clear hb hbox hg) | ((with_reducible refine gate_dst (N := 3) rfl ?_); refine box_event ?hg (N := 3) ?hd (cs := #[.bool false, .slice none 0 0, .slice none 0 0, .slice none 0 0, .slice none 0 0]) (t := 34) ?hr ?_; (case hd => rfl); (case hg => rfl); (case hr => exact z95_); intro gb154 hg w8 hbox hb; have BK154 := q_ (hbox); have GW154 := ge_ hg; have GE154 := ge_ hg; replace HB := hb_ hb; have NB152_154 := nl_ hg BK152; have NB154_152 := nr_ hg BK152; replace BK152 := rb_ BK152 hb; have NB153_154 := nl_ hg BK153; have NB154_153 := nr_ hg BK153; replace BK153 := rb_ BK153 hb; clear hb hbox hg; have hnb9 := NB152_153.out; have hnc9 := NB153_152.out; have hnb10 := NB152_154.out; have hnc10 := NB154_152.out; obtain ⟨hz_, hz_, hz_, hz_, hz_, hz_, hz_, hz_, hz_, hz_⟩ := cs5_ BK152.out; have hnb12 := NB154_153.out; have hnc12 := NB153_154.out; obtain ⟨hz_, hz_, hz_, hz_, hz_, hz_, hz_, hz_, hz_, hz_⟩ := cs5_ BK154.out) | ((with_reducible refine gate_callee (f := 60) rfl ?_); refine goesL_ (some 9) rfl rfl Try.func60 (by kernel_rfl) rfl #[.slice A0_1 l0_1.length c0_1] rfl z0_ ?_; (with_reducible refine (laws_toPairS.calls k _ _ l0_1 t155 _ ?side1 ?side2 A2.out).mono ?_); (case side1 => exact Kd.C_below HR0_1.out cb_); (case side2 => exact z117_); rintro e w14 ⟨v156, rfl, ho0, hb⟩; refine ⟨_, rfl, ?_⟩; have HO157 := q_ (Kd.R_lower ho0 (below_size cb_)); replace BK152 := q_ (blk_below (g := gb152) (o := .cells #[.bool a0_0, .slice A0_1 l0_1.length c0_1, .slice A0_2 l0_2.length c0_2, .slice A0_3 l0_3.length c0_3, .slice A0_4 l0_4.length c0_4] 27 (0, 0)) z27_ hb); replace BK153 := q_ (blk_below (g := gb153) (o := .cells #[.bool false, .slice none 0 0, .slice none 0 0, .slice none 0 0, .slice none 0 0] 34 (0, 0)) z18_ hb); replace BK154 := q_ (blk_below (g := gb154) (o := .cells #[.bool a0_0, .slice none 0 0, .slice none 0 0, .slice none 0 0, .slice none 0 0] 34 (0, 0)) (by (with_reducible repeat (first | refine blk_drewN ?_ _ | refine blk_drew ?_ | refine blk_alloc ?_ _)); refine blk_put (cs := #[.bool false, .slice none 0 0, .slice none 0 0, .slice none 0 0, .slice none 0 0]) ?_ 0 _ rfl; (with_reducible repeat (first | refine blk_drewN ?_ _ | refine blk_drew ?_ | refine blk_alloc ?_ _)); exact BK154.out) hb); replace HB := hb_ hb; (try clear hb); (try clear hb2); (try clear hk); (try clear hi); (try clear ho0); obtain ⟨Ao15, co15, eo15⟩ := Kd.R_slice HO157.out; subst eo15; obtain ⟨hz_, hz_, hz_, hz_, hz_, hz_, hz_, hz_, hz_, hz_⟩ := cs5_ BK154.out; obtain ⟨hz_, hz_, hz_, hz_, hz_, hz_, hz_, hz_, hz_, hz_⟩ := cs5_ BK152.out) | ((with_reducible refine gate_callee (f := 61) rfl ?_); refine goesL_ (some 13) rfl rfl Try.func61 (by kernel_rfl) rfl #[.slice A0_2 l0_2.length c0_2] rfl z0_ ?_; (with_reducible refine (laws_toIntS.calls k _ _ l0_2 t158 _ ?side1 ?side2 A3.out).mono ?_); (case side1 => exact Kd.C_below HR0_2.out cb_); (case side2 => exact HC0_2.out); rintro e w18 ⟨v159, rfl, ho0, hb⟩; refine ⟨_, rfl, ?_⟩; replace HO157 := q_ (Kd.R_below (by (with_reducible repeat (first | apply Kd.R_alloc | apply Kd.R_drewN | apply Kd.R_drew)); exact (Kd.R_mono (Kd.R_far (p := ⟨gb154, 1, none⟩) (Kd.R_types HO157.out BK154.out (by decide)) (fun _ hk => hk.2) (.slice Ao15 t155.length co15)) (fun _ h_ => h_.1))) hb); have HO160 := q_ (Kd.R_lower ho0 (below_size cb_)); replace BK152 := q_ (blk_below (g := gb152) (o := .cells #[.bool a0_0, .slice A0_1 l0_1.length c0_1, .slice A0_2 l0_2.length c0_2, .slice A0_3 l0_3.length c0_3, .slice A0_4 l0_4.length c0_4] 27 (0, 0)) z27_ hb); replace BK153 := q_ (blk_below (g := gb153) (o := .cells #[.bool false, .slice none 0 0, .slice none 0 0, .slice none 0 0, .slice none 0 0] 34 (0, 0)) z18_ hb); replace BK154 := q_ (blk_below (g := gb154) (o := .cells #[.bool a0_0, .slice Ao15 t155.length co15, .slice none 0 0, .slice none 0 0, .slice none 0 0] 34 (0, 0)) (by (with_reducible repeat (first | refine blk_drewN ?_ _ | refine blk_drew ?_ | refine blk_alloc ?_ _)); refine blk_put (cs := #[.bool a0_0, .slice none 0 0, .slice none 0 0, .slice none 0 0, .slice none 0 0]) ?_ 1 _ rfl; (with_reducible repeat (first | refine blk_drewN ?_ _ | refine blk_drew ?_ | refine blk_alloc ?_ _)); exact BK154.out) hb); replace HB := hb_ hb; (try clear hb); (try clear hb2); (try clear hk); (try clear hi); (try clear ho0); obtain ⟨Ao19, co19, eo19⟩ := Kd.R_slice HO160.out; subst eo19; obtain ⟨hz_, hz_, hz_, hz_, hz_, hz_, hz_, hz_, hz_, hz_⟩ := cs5_ BK154.out; obtain ⟨hz_, hz_, hz_, hz_, hz_, hz_, hz_, hz_, hz_, hz_⟩ := cs5_ BK152.out) | ((with_reducible refine gate_callee (f := 62) rfl ?_); refine goesL_ (some 17) rfl rfl Try.func62 (by kernel_rfl) rfl #[.slice A0_3 l0_3.length c0_3] rfl z0_ ?_; (with_reducible refine (ih_laws_toTreeS k (by omega) _ _ l0_3 t161 _ ?side1 ?side2 A4.out).mono ?_); (case side1 => exact Kd.C_below HR0_3.out cb_); (case side2 => exact HC0_3.out); rintro e w22 ⟨v162, rfl, ho0, hb⟩; refine ⟨_, rfl, ?_⟩; have HO163 := q_ (Kd.R_lower (Kd.R_newB (Kd.R_newB (Kd.R_new' (Kd.R_new' ho0 (Kd.R_lt (by (with_reducible repeat (first | apply Kd.R_alloc | apply Kd.R_drewN | apply Kd.R_drew)); exact (Kd.R_mono (Kd.R_far (p := ⟨gb154, 2, none⟩) (Kd.R_types HO157.out BK154.out (by decide)) (fun _ hk => hk.2) (.slice Ao19 t158.length co19)) (fun _ h_ => h_.1))))) (Kd.R_lt (by (with_reducible repeat (first | apply Kd.R_alloc | apply Kd.R_drewN | apply Kd.R_drew)); exact (Kd.R_mono (Kd.R_far (p := ⟨gb154, 2, none⟩) (Kd.R_types HO160.out BK154.out (by decide)) (fun _ hk => hk.2) (.slice Ao19 t158.length co19)) (fun _ h_ => h_.1))))) (g := gb153) (o := .cells #[.bool false, .slice none 0 0, .slice none 0 0, .slice none 0 0, .slice none 0 0] 34 (0, 0)) z18_) (g := gb154) (o := .cells #[.bool a0_0, .slice Ao15 t155.length co15, .slice Ao19 t158.length co19, .slice none 0 0, .slice none 0 0] 34 (0, 0)) z35_) (below_size cb_)); replace HO157 := q_ (Kd.R_below (by (with_reducible repeat (first | apply Kd.R_alloc | apply Kd.R_drewN | apply Kd.R_drew)); exact (Kd.R_mono (Kd.R_far (p := ⟨gb154, 2, none⟩) (Kd.R_types HO157.out BK154.out (by decide)) (fun _ hk => hk.2) (.slice Ao19 t158.length co19)) (fun _ h_ => h_.1))) hb); replace HO160 := q_ (Kd.R_below (by (with_reducible repeat (first | apply Kd.R_alloc | apply Kd.R_drewN | apply Kd.R_drew)); exact (Kd.R_mono (Kd.R_far (p := ⟨gb154, 2, none⟩) (Kd.R_types HO160.out BK154.out (by decide)) (fun _ hk => hk.2) (.slice Ao19 t158.length co19)) (fun _ h_ => h_.1))) hb); replace BK152 := q_ (blk_below (g := gb152) (o := .cells #[.bool a0_0, .slice A0_1 l0_1.length c0_1, .slice A0_2 l0_2.length c0_2, .slice A0_3 l0_3.length c0_3, .slice A0_4 l0_4.length c0_4] 27 (0, 0)) z27_ hb); replace BK153 := q_ (blk_below (g := gb153) (o := .cells #[.bool false, .slice none 0 0, .slice none 0 0, .slice none 0 0, .slice none 0 0] 34 (0, 0)) z18_ hb); replace BK154 := q_ (blk_below (g := gb154) (o := .cells #[.bool a0_0, .slice Ao15 t155.length co15, .slice Ao19 t158.length co19, .slice none 0 0, .slice none 0 0] 34 (0, 0)) z35_ hb); replace HB := hb_ hb; (try clear hb); (try clear hb2); (try clear hk); (try clear hi); (try clear ho0); obtain ⟨Ao23, co23, eo23⟩ := Kd.R_slice HO163.out; subst eo23; obtain ⟨hz_, hz_, hz_, hz_, hz_, hz_, hz_, hz_, hz_, hz_⟩ := cs5_ BK154.out; obtain ⟨hz_, hz_, hz_, hz_, hz_, hz_, hz_, hz_, hz_, hz_⟩ := cs5_ BK152.out) | ((with_reducible refine gate_callee (f := 63) rfl ?_); refine goesL_ (some 21) rfl rfl Try.func63 (by kernel_rfl) rfl #[.slice A0_4 l0_4.length c0_4] rfl z0_ ?_; (with_reducible refine (laws_toMsgS.calls k _ _ l0_4 t164 _ ?side1 ?side2 A5.out).mono ?_); (case side1 => exact Kd.C_below HR0_4.out cb_); (case side2 => exact z122_); rintro e w26 ⟨v165, rfl, ho0, hb⟩; refine ⟨_, rfl, ?_⟩; replace HO157 := q_ (Kd.R_below (by (with_reducible repeat (first | apply Kd.R_alloc | apply Kd.R_drewN | apply Kd.R_drew)); exact (Kd.R_mono (Kd.R_far (p := ⟨gb154, 3, none⟩) (Kd.R_types HO157.out BK154.out (by decide)) (fun _ hk => hk.2) (.slice Ao23 t161.length co23)) (fun _ h_ => h_.1))) hb); replace HO160 := q_ (Kd.R_below (by (with_reducible repeat (first | apply Kd.R_alloc | apply Kd.R_drewN | apply Kd.R_drew)); exact (Kd.R_mono (Kd.R_far (p := ⟨gb154, 3, none⟩) (Kd.R_types HO160.out BK154.out (by decide)) (fun _ hk => hk.2) (.slice Ao23 t161.length co23)) (fun _ h_ => h_.1))) hb); replace HO163 := q_ (Kd.R_elder' (by (with_reducible repeat (first | apply Kd.R_alloc | apply Kd.R_drewN | apply Kd.R_drew)); exact (Kd.R_mono (Kd.R_far (p := ⟨gb154, 3, none⟩) (Kd.R_mono HO163.out (fun k_ hk => (⟨hk, hk.2⟩ : _ ∧ k_ ≠ gb154))) (fun _ hk => hk.2) (.slice Ao23 t161.length co23)) (fun _ h_ => h_.1))) (Kd.R_base ho0) hb); have HO166 := q_ (Kd.R_lower ho0 (below_size cb_)); replace BK152 := q_ (blk_below (g := gb152) (o := .cells #[.bool a0_0, .slice A0_1 l0_1.length c0_1, .slice A0_2 l0_2.length c0_2, .slice A0_3 l0_3.length c0_3, .slice A0_4 l0_4.length c0_4] 27 (0, 0)) z27_ hb); replace BK153 := q_ (blk_below (g := gb153) (o := .cells #[.bool false, .slice none 0 0, .slice none 0 0, .slice none 0 0, .slice none 0 0] 34 (0, 0)) z18_ hb); replace BK154 := q_ (blk_below (g := gb154) (o := .cells #[.bool a0_0, .slice Ao15 t155.length co15, .slice Ao19 t158.length co19, .slice Ao23 t161.length co23, .slice none 0 0] 34 (0, 0)) (by (with_reducible repeat (first | refine blk_drewN ?_ _ | refine blk_drew ?_ | refine blk_alloc ?_ _)); refine blk_put (cs := #[.bool a0_0, .slice Ao15 t155.length co15, .slice Ao19 t158.length co19, .slice none 0 0, .slice none 0 0]) ?_ 3 _ rfl; (with_reducible repeat (first | refine blk_drewN ?_ _ | refine blk_drew ?_ | refine blk_alloc ?_ _)); exact BK154.out) hb); replace HB := hb_ hb; (try clear hb); (try clear hb2); (try clear hk); (try clear hi); (try clear ho0); obtain ⟨Ao27, co27, eo27⟩ := Kd.R_slice HO166.out; subst eo27; obtain ⟨hz_, hz_, hz_, hz_, hz_, hz_, hz_, hz_, hz_, hz_⟩ := cs5_ BK154.out; obtain ⟨hz_, hz_, hz_, hz_, hz_, hz_, hz_, hz_, hz_, hz_⟩ := cs5_ BK153.out))
 refine bodyPost_ret (results_cell_row rfl _ _ gb153 34 #[.bool a0_0, .slice Ao15 t155.length co15, .slice Ao19 t158.length co19, .slice Ao23 t161.length co23, .slice Ao27 t164.length co27] (0, 0) _ rfl (by (with_reducible repeat (first | refine blk_drewN ?_ _ | refine blk_drew ?_ | refine blk_alloc ?_ _)); refine blk_put (cs := #[.bool a0_0, .slice Ao15 t155.length co15, .slice Ao19 t158.length co19, .slice Ao23 t161.length co23, .slice none 0 0]) ?_ 4 _ rfl; (with_reducible repeat (first | refine blk_drewN ?_ _ | refine blk_drew ?_ | refine blk_alloc ?_ _)); refine blk_put (cs := #[.bool a0_0, .slice Ao15 t155.length co15, .slice Ao19 t158.length co19, .slice none 0 0, .slice none 0 0]) ?_ 3 _ rfl; (with_reducible repeat (first | refine blk_drewN ?_ _ | refine blk_drew ?_ | refine blk_alloc ?_ _)); refine blk_put (cs := #[.bool a0_0, .slice Ao15 t155.length co15, .slice none 0 0, .slice none 0 0, .slice none 0 0]) ?_ 2 _ rfl; (with_reducible repeat (first | refine blk_drewN ?_ _ | refine blk_drew ?_ | refine blk_alloc ?_ _)); refine blk_put (cs := #[.bool a0_0, .slice none 0 0, .slice none 0 0, .slice none 0 0, .slice none 0 0]) ?_ 1 _ rfl; (with_reducible repeat (first | refine blk_drewN ?_ _ | refine blk_drew ?_ | refine blk_alloc ?_ _)); refine blk_put (cs := #[.bool false, .slice none 0 0, .slice none 0 0, .slice none 0 0, .slice none 0 0]) ?_ 0 _ rfl; (with_reducible repeat (first | refine blk_drewN ?_ _ | refine blk_drew ?_ | refine blk_alloc ?_ _)); refine blk_far ?_ NB153_154.out _; (with_reducible repeat (first | refine blk_drewN ?_ _ | refine blk_drew ?_ | refine blk_alloc ?_ _)); exact BK153.out) Try.underlying34 rfl (by kernel_rfl)) rfl ?_
 exact ⟨_, _, _, _, z2_, by (with_reducible repeat (first | apply Kd.R_alloc | apply Kd.R_drewN | apply Kd.R_drew)); exact Kd.R_mono (Kd.R_far (p := ⟨gb153, 4, none⟩) (Kd.R_far (p := ⟨gb153, 3, none⟩) (Kd.R_far (p := ⟨gb153, 2, none⟩) (Kd.R_far (p := ⟨gb153, 1, none⟩) (Kd.R_far (p := ⟨gb153, 0, none⟩) (Kd.R_far (p := ⟨gb154, 4, none⟩) (Kd.R_types (Kd.R_types HO157.out BK154.out (by decide)) BK153.out (by decide)) (fun _ hk => hk.1.2) (.slice Ao27 t164.length co27)) (fun _ hk => hk.2) (.bool a0_0)) (fun _ hk => hk.2) (.slice Ao15 t155.length co15)) (fun _ hk => hk.2) (.slice Ao19 t158.length co19)) (fun _ hk => hk.2) (.slice Ao23 t161.length co23)) (fun _ hk => hk.2) (.slice Ao27 t164.length co27)) (fun _ hk => trivial), by (with_reducible repeat (first | apply Kd.R_alloc | apply Kd.R_drewN | apply Kd.R_drew)); exact Kd.R_mono (Kd.R_far (p := ⟨gb153, 4, none⟩) (Kd.R_far (p := ⟨gb153, 3, none⟩) (Kd.R_far (p := ⟨gb153, 2, none⟩) (Kd.R_far (p := ⟨gb153, 1, none⟩) (Kd.R_far (p := ⟨gb153, 0, none⟩) (Kd.R_far (p := ⟨gb154, 4, none⟩) (Kd.R_types (Kd.R_types HO160.out BK154.out (by decide)) BK153.out (by decide)) (fun _ hk => hk.1.2) (.slice Ao27 t164.length co27)) (fun _ hk => hk.2) (.bool a0_0)) (fun _ hk => hk.2) (.slice Ao15 t155.length co15)) (fun _ hk => hk.2) (.slice Ao19 t158.length co19)) (fun _ hk => hk.2) (.slice Ao23 t161.length co23)) (fun _ hk => hk.2) (.slice Ao27 t164.length co27)) (fun _ hk => trivial), by (with_reducible repeat (first | apply Kd.R_alloc | apply Kd.R_drewN | apply Kd.R_drew)); exact Kd.R_mono (Kd.R_far (p := ⟨gb153, 4, none⟩) (Kd.R_far (p := ⟨gb153, 3, none⟩) (Kd.R_far (p := ⟨gb153, 2, none⟩) (Kd.R_far (p := ⟨gb153, 1, none⟩) (Kd.R_far (p := ⟨gb153, 0, none⟩) (Kd.R_far (p := ⟨gb154, 4, none⟩) (Kd.R_mono (Kd.R_mono HO163.out (fun k_ hk => (⟨hk, hk.1.2⟩ : _ ∧ k_ ≠ gb154))) (fun k_ hk => (⟨hk, hk.1.1.1.2⟩ : _ ∧ k_ ≠ gb153))) (fun _ hk => hk.1.2) (.slice Ao27 t164.length co27)) (fun _ hk => hk.2) (.bool a0_0)) (fun _ hk => hk.2) (.slice Ao15 t155.length co15)) (fun _ hk => hk.2) (.slice Ao19 t158.length co19)) (fun _ hk => hk.2) (.slice Ao23 t161.length co23)) (fun _ hk => hk.2) (.slice Ao27 t164.length co27)) (fun _ hk => ⟨hk.1.1.1.1.1.1.2, ⟨hk.1.1.1.1.1.2, hk.1.1.2⟩⟩), by (with_reducible repeat (first | apply Kd.R_alloc | apply Kd.R_drewN | apply Kd.R_drew)); exact Kd.R_mono (Kd.R_far (p := ⟨gb153, 4, none⟩) (Kd.R_far (p := ⟨gb153, 3, none⟩) (Kd.R_far (p := ⟨gb153, 2, none⟩) (Kd.R_far (p := ⟨gb153, 1, none⟩) (Kd.R_far (p := ⟨gb153, 0, none⟩) (Kd.R_far (p := ⟨gb154, 4, none⟩) (Kd.R_types (Kd.R_types HO166.out BK154.out (by decide)) BK153.out (by decide)) (fun _ hk => hk.1.2) (.slice Ao27 t164.length co27)) (fun _ hk => hk.2) (.bool a0_0)) (fun _ hk => hk.2) (.slice Ao15 t155.length co15)) (fun _ hk => hk.2) (.slice Ao19 t158.length co19)) (fun _ hk => hk.2) (.slice Ao23 t161.length co23)) (fun _ hk => hk.2) (.slice Ao27 t164.length co27)) (fun _ hk => trivial), cb_⟩

theorem laws_toTreeS.all : ∀ k, (∀ (A0 : Option Addr) (c0 : Nat) (l0 : List (S27)) (r : List (S34)) (w : World) (hr0 : Kd.C k27 w A0 l0.length l0) (hc0 : l0.length ≤ c0) (h : laws_toTreeS.f k l0 = some r),
  Calls Try.prog 62 #[.slice A0 l0.length c0] w fun e w' => ∃ v0_ : Value, e = .returned (v0_) ∧ Kd.R k34 34 w' w.heap.size (fun _ => True) v0_ r ∧ Below w.heap.size w w') ∧ (∀ (a0_0 : Bool) (A0_1 : Option Addr) (c0_1 : Nat) (l0_1 : List (S107)) (A0_2 : Option Addr) (c0_2 : Nat) (l0_2 : List Int) (A0_3 : Option Addr) (c0_3 : Nat) (l0_3 : List (S27)) (A0_4 : Option Addr) (c0_4 : Nat) (l0_4 : List (S109)) (r1 : Bool) (r2 : List (S92)) (r3 : List Int) (r4 : List (S34)) (r5 : List (S72)) (w : World) (hr0_1 : Kd.C k107 w A0_1 l0_1.length l0_1) (hc0_1 : l0_1.length ≤ c0_1) (hr0_2 : Kd.C (Kd.int .i64) w A0_2 l0_2.length l0_2) (hc0_2 : l0_2.length ≤ c0_2) (hr0_3 : Kd.C k27 w A0_3 l0_3.length l0_3) (hc0_3 : l0_3.length ≤ c0_3) (hr0_4 : Kd.C k109 w A0_4 l0_4.length l0_4) (hc0_4 : l0_4.length ≤ c0_4) (h : laws_toTree.f k a0_0 l0_1 l0_2 l0_3 l0_4 = some (r1, r2, r3, r4, r5)),
  Calls Try.prog 17 #[.agg #[.bool a0_0, .slice A0_1 l0_1.length c0_1, .slice A0_2 l0_2.length c0_2, .slice A0_3 l0_3.length c0_3, .slice A0_4 l0_4.length c0_4]] w fun e w' => ∃ v1_ v2_ v3_ v4_ : Value, e = .returned (.agg #[.bool r1, v1_, v2_, v3_, v4_]) ∧ Kd.R k92 92 w' w.heap.size (fun _ => True) v1_ r2 ∧ Kd.R (Kd.int .i64) 3 w' w.heap.size (fun _ => True) v2_ r3 ∧ Kd.R k34 34 w' w.heap.size (fun k_ => some k_ ≠ (v1_ : Value).ownBlock ∧ some k_ ≠ (v2_ : Value).ownBlock ∧ some k_ ≠ (v4_ : Value).ownBlock) v3_ r4 ∧ Kd.R k72 72 w' w.heap.size (fun _ => True) v4_ r5 ∧ Below w.heap.size w w') := by
 intro k
 induction k using Nat.strongRecOn with
 | _ k ih_ =>
 exact ⟨laws_toTreeS.step k (fun m_ h_ => (ih_ m_ h_).1) (fun m_ h_ => (ih_ m_ h_).2), laws_toTree.step k (fun m_ h_ => (ih_ m_ h_).1) (fun m_ h_ => (ih_ m_ h_).2)⟩
theorem laws_toTreeS.calls (k : Nat) : ∀ (A0 : Option Addr) (c0 : Nat) (l0 : List (S27)) (r : List (S34)) (w : World) (hr0 : Kd.C k27 w A0 l0.length l0) (hc0 : l0.length ≤ c0) (h : laws_toTreeS.f k l0 = some r),
  Calls Try.prog 62 #[.slice A0 l0.length c0] w fun e w' => ∃ v0_ : Value, e = .returned (v0_) ∧ Kd.R k34 34 w' w.heap.size (fun _ => True) v0_ r ∧ Below w.heap.size w w' := (laws_toTreeS.all k).1
theorem laws_toTree.calls (k : Nat) : ∀ (a0_0 : Bool) (A0_1 : Option Addr) (c0_1 : Nat) (l0_1 : List (S107)) (A0_2 : Option Addr) (c0_2 : Nat) (l0_2 : List Int) (A0_3 : Option Addr) (c0_3 : Nat) (l0_3 : List (S27)) (A0_4 : Option Addr) (c0_4 : Nat) (l0_4 : List (S109)) (r1 : Bool) (r2 : List (S92)) (r3 : List Int) (r4 : List (S34)) (r5 : List (S72)) (w : World) (hr0_1 : Kd.C k107 w A0_1 l0_1.length l0_1) (hc0_1 : l0_1.length ≤ c0_1) (hr0_2 : Kd.C (Kd.int .i64) w A0_2 l0_2.length l0_2) (hc0_2 : l0_2.length ≤ c0_2) (hr0_3 : Kd.C k27 w A0_3 l0_3.length l0_3) (hc0_3 : l0_3.length ≤ c0_3) (hr0_4 : Kd.C k109 w A0_4 l0_4.length l0_4) (hc0_4 : l0_4.length ≤ c0_4) (h : laws_toTree.f k a0_0 l0_1 l0_2 l0_3 l0_4 = some (r1, r2, r3, r4, r5)),
  Calls Try.prog 17 #[.agg #[.bool a0_0, .slice A0_1 l0_1.length c0_1, .slice A0_2 l0_2.length c0_2, .slice A0_3 l0_3.length c0_3, .slice A0_4 l0_4.length c0_4]] w fun e w' => ∃ v1_ v2_ v3_ v4_ : Value, e = .returned (.agg #[.bool r1, v1_, v2_, v3_, v4_]) ∧ Kd.R k92 92 w' w.heap.size (fun _ => True) v1_ r2 ∧ Kd.R (Kd.int .i64) 3 w' w.heap.size (fun _ => True) v2_ r3 ∧ Kd.R k34 34 w' w.heap.size (fun k_ => some k_ ≠ (v1_ : Value).ownBlock ∧ some k_ ≠ (v2_ : Value).ownBlock ∧ some k_ ≠ (v4_ : Value).ownBlock) v3_ r4 ∧ Kd.R k72 72 w' w.heap.size (fun _ => True) v4_ r5 ∧ Below w.heap.size w w' := (laws_toTreeS.all k).2

/-! ### laws_eqMsg: function 73 -/
def laws_eqMsg.f (a0_0 : Int) (a0_1 : Int) (a0_2 : Int) (a1_0 : Int) (a1_1 : Int) (a1_2 : Int) : Option (Bool) := if a0_0 = a1_0 then (if a0_1 = a1_1 then (if a0_2 = a1_2 then (some true) else (some false)) else (some false)) else (some false)
set_option maxHeartbeats 8000000 in
set_option maxRecDepth 100000 in
theorem laws_eqMsg.calls (a0_0 : Int) (a0_1 : Int) (a0_2 : Int) (a1_0 : Int) (a1_1 : Int) (a1_2 : Int) (r : Bool) (w : World) (h : laws_eqMsg.f a0_0 a0_1 a0_2 a1_0 a1_1 a1_2 = some r) :
  Calls Try.prog 73 #[.agg #[.int .i64 a0_0, .int .i64 a0_1, .int .i64 a0_2], .agg #[.int .i64 a1_0, .int .i64 a1_1, .int .i64 a1_2]] w fun e w' => e = .returned (.bool r) ∧ Below w.heap.size w w' := by
 have hu72 := Try.underlying72
 have HB := q_ (Below.refl w.heap.size w)
 have H := h; clear h
 unfold laws_eqMsg.f at H
 have HC3 := q_ H
 clear H
 go_enter Try.func73, Try.ntmps73
 go_upto_if 9 with (first | ((with_reducible refine gate_dst (N := 2) rfl ?_); refine box_event ?hg (N := 2) ?hd (cs := #[.int .i64 a0_0, .int .i64 a0_1, .int .i64 a0_2]) (t := 72) ?hr ?_; (case hd => rfl); (case hg => rfl); (case hr => exact z95_); intro gb167 hg w4 hbox hb; have BK167 := q_ (hbox); have GW167 := ge_ hg; have GE167 := ge_ hg; replace HB := hb_ hb; clear hb hbox hg) | ((with_reducible refine gate_dst (N := 3) rfl ?_); refine box_event ?hg (N := 3) ?hd (cs := #[.int .i64 a1_0, .int .i64 a1_1, .int .i64 a1_2]) (t := 72) ?hr ?_; (case hd => rfl); (case hg => rfl); (case hr => exact z95_); intro gb168 hg w5 hbox hb; have BK168 := q_ (hbox); have GW168 := ge_ hg; have GE168 := ge_ hg; replace HB := hb_ hb; have NB167_168 := nl_ hg BK167; have NB168_167 := nr_ hg BK167; replace BK167 := rb_ BK167 hb; clear hb hbox hg; have hnb6 := NB167_168.out; have hnc6 := NB168_167.out; obtain ⟨hz_, hz_, hz_, hz_, hz_, hz_⟩ := cs3_ BK167.out; obtain ⟨hz_, hz_, hz_, hz_, hz_, hz_⟩ := cs3_ BK168.out))
 (try simp only [Act.put, List.setIfInBounds_toArray, List.set_cons_zero, List.set_cons_succ])
 have H := HC3.out
 clear HC3
 replace H := ke_ H; rcases H with ⟨c9b0, c9b1, H⟩ | ⟨c9, c9b0, c9b1, H⟩
 ·(first | rw [c9b0] | rw [c9b1] | (simp only [i64_w, i32_w]; first | rw [c9b0] | rw [c9b1]) | rw [c9b2] | skip)
  have HC10 := q_ H
  clear H
  have hnb11 := NB167_168.out
  have hnc11 := NB168_167.out
  obtain ⟨hz_, hz_, hz_, hz_, hz_, hz_⟩ := cs3_ BK167.out
  obtain ⟨hz_, hz_, hz_, hz_, hz_, hz_⟩ := cs3_ BK168.out
  go_upto_if 14 with (fail)
  have H := HC10.out
  clear HC10
  replace H := ke_ H; rcases H with ⟨c14b0, c14b1, H⟩ | ⟨c14, c14b0, c14b1, H⟩
  ·(first | rw [c14b0] | rw [c14b1] | (simp only [i64_w, i32_w]; first | rw [c14b0] | rw [c14b1]) | rw [c14b2] | skip)
   have HC15 := q_ H
   clear H
   have hnb16 := NB167_168.out
   have hnc16 := NB168_167.out
   obtain ⟨hz_, hz_, hz_, hz_, hz_, hz_⟩ := cs3_ BK167.out
   obtain ⟨hz_, hz_, hz_, hz_, hz_, hz_⟩ := cs3_ BK168.out
   go_upto_if 19 with (fail)
   have H := HC15.out
   clear HC15
   replace H := ke_ H; rcases H with ⟨c19b0, c19b1, H⟩ | ⟨c19, c19b0, c19b1, H⟩
   ·(first | rw [c19b0] | rw [c19b1] | (simp only [i64_w, i32_w]; first | rw [c19b0] | rw [c19b1]) | rw [c19b2] | skip)
    obtain rfl := si_ H
    go_wp2
    go_ret
    exact ⟨z2_, cb_⟩
   ·(first | rw [c19b0] | rw [c19b1] | (simp only [i64_w, i32_w]; first | rw [c19b0] | rw [c19b1]) | rw [c19b2] | skip)
    obtain rfl := si_ H
    go_wp2
    go_ret
    exact ⟨z2_, cb_⟩
  ·(first | rw [c14b0] | rw [c14b1] | (simp only [i64_w, i32_w]; first | rw [c14b0] | rw [c14b1]) | rw [c14b2] | skip)
   obtain rfl := si_ H
   go_wp2
   go_ret
   exact ⟨z2_, cb_⟩
 ·(first | rw [c9b0] | rw [c9b1] | (simp only [i64_w, i32_w]; first | rw [c9b0] | rw [c9b1]) | rw [c9b2] | skip)
  obtain rfl := si_ H
  go_wp2
  go_ret
  exact ⟨z2_, cb_⟩

/-! ### laws_eqMsgS: function 28 -/
def laws_eqMsgS.l0 : Nat → List (S72) → List (S72) → Int → Option (Bool)
 | 0, _, _, _ => none
 | k + 1, x0, x1, x5 => if x5 < (x0.length : Int) then (if 0 ≤ x5 then (if x5 < (x1.length : Int) then ((laws_eqMsg.f ((rd_T72 x0 x5).f0) ((rd_T72 x0 x5).f1) ((rd_T72 x0 x5).f2) ((rd_T72 x1 x5).f0) ((rd_T72 x1 x5).f1) ((rd_T72 x1 x5).f2)).bind fun t171 => (if t171 = true then (laws_eqMsgS.l0 k x0 x1 (wrap64 (x5 + 1))) else (some false))) else (none)) else (none)) else (some true)
def laws_eqMsgS.f (k : Nat) (l0 : List (S72)) (l1 : List (S72)) : Option (Bool) := if (l0.length : Int) = (l1.length : Int) then (laws_eqMsgS.l0 k l0 l1 0) else (some false)
theorem laws_eqMsgS.mono_l : ∀ k, (∀ y0 y1 y2, LeO (laws_eqMsgS.l0 k y0 y1 y2) (laws_eqMsgS.l0 (k + 1) y0 y1 y2))
 | 0 => fun _ _ _ r h => by simp [laws_eqMsgS.l0] at h
 | k + 1 => by
  have ih0 := laws_eqMsgS.mono_l k
  ·intro y0 y1 y2
   unfold laws_eqMsgS.l0
   exact zm_
theorem laws_eqMsgS.mono : ∀ a0 a1 k, LeO (laws_eqMsgS.f k a0 a1) (laws_eqMsgS.f (k + 1) a0 a1) := by
 intro a0 a1 k
 have ih0 := laws_eqMsgS.mono_l k
 unfold laws_eqMsgS.f
 exact zm_
def laws_eqMsgS.T6 : Bool × List (List Nat × List Nat) := (true, [([], []), ([], []), ([0, 1], [0, 1]), ([2], [2]), ([], []), ([], []), ([4, 5], [4, 5]), ([6], [6]), ([3, 7], [3, 7]), ([8], [8])])
def laws_eqMsgS.B6 : List Nat := [0, 0, 3, 7, 0, 0, 48, 112, 255, 511]
theorem laws_eqMsgS.tab6 : rtab .any (opsOf Try.f28 6) = laws_eqMsgS.T6 := by kernel_rfl
theorem laws_eqMsgS.bits6 : waitsOk laws_eqMsgS.T6.2 laws_eqMsgS.B6 = true := by kernel_rfl
set_option maxHeartbeats 8000000 in
set_option maxRecDepth 100000 in
theorem laws_eqMsgS.calls (k : Nat) (A0 : Option Addr) (c0 : Nat) (l0 : List (S72)) (A1 : Option Addr) (c1 : Nat) (l1 : List (S72)) (r : Bool) (w : World) (hr0 : Kd.C k72 w A0 l0.length l0) (hc0 : l0.length ≤ c0) (hr1 : Kd.C k72 w A1 l1.length l1) (hc1 : l1.length ≤ c1) (h : laws_eqMsgS.f k l0 l1 = some r) :
  Calls Try.prog 28 #[.slice A0 l0.length c0, .slice A1 l1.length c1] w fun e w' => e = .returned (.bool r) ∧ Below w.heap.size w w' := by
 have hu72 := Try.underlying72
 have HR0 := q_ hr0
 have HC0 := q_ hc0
 clear hr0 hc0
 have HR1 := q_ hr1
 have HC1 := q_ hc1
 clear hr1 hc1
 have HB := q_ (Below.refl w.heap.size w)
 have H := h; clear h
 unfold laws_eqMsgS.f at H
 by_cases c3 : (l0.length : Int) = (l1.length : Int)
 ·rw [if_pos c3] at H
  have c3b0 : ((l0.length : Int) == (l1.length : Int)) = true := beq_iff_eq.mpr c3
  have c3b1 : ((l0.length : Int) != (l1.length : Int)) = false := bne_eq_false_iff_eq.mpr c3
  have c3b2 : (l0.length == l1.length) = true := z56_
  clear c3
  have H' := q_ H
  clear H
  go_enter Try.func28, Try.ntmps28
  go_wp2
  go_loopg [5] k (fun kq v5 w' => ∃ (x5_1 : Int), v5 = .int .i64 x5_1 ∧ Aside0 (laws_eqMsgS.l0 kq l0 l1 x5_1 = some r) ∧ Aside0 (kq ≤ k) ∧ Aside0 (Below w.heap.size w w'))
  case atStart => exact ⟨(0), z4_, H', ⟨Nat.le_refl _⟩, ⟨cb_⟩⟩
  case round =>
   clear H'
   try clear c1
   try clear c2
   try clear p2
   try clear c3
   try clear c3b0
   try clear c3b1
   try clear c3b2
   obtain ⟨x5_1, rfl, HA, HK1, HB⟩ := hrel
   obtain ⟨k1, rfl, H⟩ := rn_ (k := gk) HA (by rintro rfl; simp only [laws_eqMsgS.l0])
   clear HA
   simp only [laws_eqMsgS.l0] at H
   replace H := kd_ H; rcases H with ⟨c4b0, H⟩ | ⟨c4b0, H⟩
   ·replace H := kdn_ H; obtain ⟨c5b0, H⟩ := H
    replace H := kdn_ H; obtain ⟨c6b0, H⟩ := H
    replace H := bi_ H; obtain ⟨t171, A7, H⟩ := H
    have HC8 := q_ H
    clear H
    try go_wp2
    replace HB := q_ (below_drew1 HB.out)
    have p169 : 0 ≤ (x5_1 : Int) := of_decide_eq_true z1_
    have q169 : x5_1 < (l0.length : Int) := of_decide_eq_true z1_
    obtain ⟨ad169, e169, hx169_0, hx169_1, hx169_2⟩ := at_T72 HR0.out x5_1 p169 q169
    have hw169_2 := hx169_2
    have hw169_1 := hx169_1
    have hw169_0 := hx169_0
    cases e169
    replace hx169_0 := up_ HB hx169_0
    replace hx169_1 := up_ HB hx169_1
    replace hx169_2 := up_ HB hx169_2
    replace p169 := eq_true p169
    replace q169 := eq_true q169
    have p170 : 0 ≤ (x5_1 : Int) := of_decide_eq_true z1_
    have q170 : x5_1 < (l1.length : Int) := of_decide_eq_true z1_
    obtain ⟨ad170, e170, hx170_0, hx170_1, hx170_2⟩ := at_T72 HR1.out x5_1 p170 q170
    have hw170_2 := hx170_2
    have hw170_1 := hx170_1
    have hw170_0 := hx170_0
    cases e170
    replace hx170_0 := up_ HB hx170_0
    replace hx170_1 := up_ HB hx170_1
    replace hx170_2 := up_ HB hx170_2
    replace p170 := eq_true p170
    replace q170 := eq_true q170
    refine start_ (n := 10) (S := fun w' => w'.cell? (ad169.add ((x5_1).toNat * 3)) = some (.int .i64 ((rd_T72 l0 x5_1).f0)) ∧ w'.cell? ⟨(ad169.add ((x5_1).toNat * 3)).block, (ad169.add ((x5_1).toNat * 3)).off + 1, none⟩ = some (.int .i64 ((rd_T72 l0 x5_1).f1)) ∧ w'.cell? ⟨(ad169.add ((x5_1).toNat * 3)).block, (ad169.add ((x5_1).toNat * 3)).off + 2, none⟩ = some (.int .i64 ((rd_T72 l0 x5_1).f2)) ∧ w'.cell? (ad170.add ((x5_1).toNat * 3)) = some (.int .i64 ((rd_T72 l1 x5_1).f0)) ∧ w'.cell? ⟨(ad170.add ((x5_1).toNat * 3)).block, (ad170.add ((x5_1).toNat * 3)).off + 1, none⟩ = some (.int .i64 ((rd_T72 l1 x5_1).f1)) ∧ w'.cell? ⟨(ad170.add ((x5_1).toNat * 3)).block, (ad170.add ((x5_1).toNat * 3)).off + 2, none⟩ = some (.int .i64 ((rd_T72 l1 x5_1).f2))) (ds := []) (tf 0 10) (by kernel_rfl) rfl rfl ⟨((HB.out.cell (World.block_lt_of_cell? w _ hw169_0)).trans hw169_0), ((HB.out.cell (World.block_lt_of_cell? w _ hw169_1)).trans hw169_1), ((HB.out.cell (World.block_lt_of_cell? w _ hw169_2)).trans hw169_2), ((HB.out.cell (World.block_lt_of_cell? w _ hw170_0)).trans hw170_0), ((HB.out.cell (World.block_lt_of_cell? w _ hw170_1)).trans hw170_1), ((HB.out.cell (World.block_lt_of_cell? w _ hw170_2)).trans hw170_2)⟩ (fun hHeld => ?_); refine with_tabW laws_eqMsgS.tab6 laws_eqMsgS.bits6 (fun HT_ HW_ => ?_)
    generalize wr.drew = w9 at HB hx169_0 hx169_1 hx169_2 hx170_0 hx170_1 hx170_2 hHeld ⊢
    refine p1_ 0 (some 17) (tf 1 9) HT_.out ?_
    refine p1_ 1 (some 18) (tf 2 8) HT_.out ?_
    refine p1_ 2 (some 19) (tf 3 7) HT_.out ?_
    refine p1_ 4 (some 21) #[true, true, true, false, true, false, false, false, false, false] HT_.out ?_
    refine p1_ 5 (some 22) #[true, true, true, false, true, true, false, false, false, false] HT_.out ?_
    refine p1_ 6 (some 23) #[true, true, true, false, true, true, true, false, false, false] HT_.out ?_
    refine take_ (i := 3) (N := some 20) (v := ?_) (a' := ?_) (tf 7 3) rfl rfl (take_ofW HT_.out HW_.out (by kernel_rfl)) (fun _ _ _ h => h) (Or.inl ⟨by rfl, ?_⟩) hHeld ?_ ?_
    rotate_left
    ·rintro w' ⟨s0, s1, s2, s3, s4, s5⟩
     go_simp
     with_reducible rfl
    rotate_left
    ·simp only [Act.put, List.setIfInBounds_toArray, List.set_cons_zero, List.set_cons_succ, i64_w, i32_w]
     rfl
    refine take_ (i := 7) (N := some 24) (v := ?_) (a' := ?_) (tf 8 2) rfl rfl (take_ofW HT_.out HW_.out (by kernel_rfl)) (fun _ _ _ h => h) (Or.inl ⟨by rfl, ?_⟩) hHeld ?_ ?_
    rotate_left
    ·rintro w' ⟨s0, s1, s2, s3, s4, s5⟩
     go_simp
     with_reducible rfl
    rotate_left
    ·simp only [Act.put, List.setIfInBounds_toArray, List.set_cons_zero, List.set_cons_succ, i64_w, i32_w]
     rfl
    refine one_ (i := 8) (N := some 25) (tf 9 1) rfl rfl (one_of HT_.out (by kernel_rfl)) (by decide) (fun K hK => ?_)
    refine goes_ Try.func73 (by kernel_rfl) rfl #[.agg #[.int .i64 ((rd_T72 l0 x5_1).f0), .int .i64 ((rd_T72 l0 x5_1).f1), .int .i64 ((rd_T72 l0 x5_1).f2)], .agg #[.int .i64 ((rd_T72 l1 x5_1).f0), .int .i64 ((rd_T72 l1 x5_1).f1), .int .i64 ((rd_T72 l1 x5_1).f2)]] (by rfl) rfl rfl z0_ ?_
    with_reducible refine (laws_eqMsg.calls ((rd_T72 l0 x5_1).f0) ((rd_T72 l0 x5_1).f1) ((rd_T72 l0 x5_1).f2) ((rd_T72 l1 x5_1).f0) ((rd_T72 l1 x5_1).f1) ((rd_T72 l1 x5_1).f2) t171 _ A7.out).mono ?_
    rintro e w10 ⟨rfl, hb⟩
    refine ⟨_, rfl, ?_⟩
    replace HB := hb_ hb
    (try clear hb)
    (try clear hb2)
    (try clear hk)
    (try clear hi)
    refine hK.out _ _ ⟨((HB.out.cell (World.block_lt_of_cell? w _ hw169_0)).trans hw169_0), ((HB.out.cell (World.block_lt_of_cell? w _ hw169_1)).trans hw169_1), ((HB.out.cell (World.block_lt_of_cell? w _ hw169_2)).trans hw169_2), ((HB.out.cell (World.block_lt_of_cell? w _ hw170_0)).trans hw170_0), ((HB.out.cell (World.block_lt_of_cell? w _ hw170_1)).trans hw170_1), ((HB.out.cell (World.block_lt_of_cell? w _ hw170_2)).trans hw170_2)⟩ (fun hHeld => ?_)
    clear hK K
    refine norm_ (a' := ?_) ?_ ?_
    rotate_left
    ·show Act.put _ (some 25) _ = _
     simp only [Act.put, List.setIfInBounds_toArray, List.set_cons_zero, List.set_cons_succ, i64_w, i32_w]
     rfl
    refine p1_ 9 (some 26) (tf 10 0) HT_.out ?_
    refine done_ (done_of HT_.out (by kernel_rfl)) ?_
    go_upto_if 26 with (fail)
    have H := HC8.out
    clear HC8
    replace H := kb_ H; rcases H with ⟨rfl, H⟩ | ⟨rfl, H⟩
    ·have H' := q_ H
     clear H
     go_wp2
     go_roundg k1
     case measure => have := HK1.out; omega
     case rel => exact ⟨(wrap64 (x5_1 + 1)), z4_, H', ⟨z25_⟩, ⟨cb_⟩⟩
    ·obtain rfl := si_ H
     go_wp2
     go_ret
     exact ⟨z2_, cb_⟩
   ·obtain rfl := si_ H
    go_wp2
    go_ret
    exact ⟨z2_, cb_⟩
 ·rw [if_neg c3] at H
  have c3b0 : ((l0.length : Int) == (l1.length : Int)) = false := beq_eq_false_iff_ne.mpr c3
  have c3b1 : ((l0.length : Int) != (l1.length : Int)) = true := bne_iff_ne.mpr c3
  have c3b2 : (l0.length == l1.length) = false := z56_
  obtain rfl := si_ H
  go_enter Try.func28, Try.ntmps28
  go_wp2
  go_ret
  exact ⟨z2_, cb_⟩

/-! ### laws_eqPair: function 85 -/
def laws_eqPair.f (a0_0 : Int) (a0_1 : Int) (a1_0 : Int) (a1_1 : Int) : Option (Bool) := if a0_0 = a1_0 then (if a0_1 = a1_1 then (some true) else (some false)) else (some false)
set_option maxHeartbeats 8000000 in
set_option maxRecDepth 100000 in
theorem laws_eqPair.calls (a0_0 : Int) (a0_1 : Int) (a1_0 : Int) (a1_1 : Int) (r : Bool) (w : World) (h : laws_eqPair.f a0_0 a0_1 a1_0 a1_1 = some r) :
  Calls Try.prog 85 #[.agg #[.int .i64 a0_0, .int .i64 a0_1], .agg #[.int .i64 a1_0, .int .i64 a1_1]] w fun e w' => e = .returned (.bool r) ∧ Below w.heap.size w w' := by
 have hu92 := Try.underlying92
 have HB := q_ (Below.refl w.heap.size w)
 have H := h; clear h
 unfold laws_eqPair.f at H
 have HC3 := q_ H
 clear H
 go_enter Try.func85, Try.ntmps85
 go_upto_if 9 with (first | ((with_reducible refine gate_dst (N := 2) rfl ?_); refine box_event ?hg (N := 2) ?hd (cs := #[.int .i64 a0_0, .int .i64 a0_1]) (t := 92) ?hr ?_; (case hd => rfl); (case hg => rfl); (case hr => exact z95_); intro gb172 hg w4 hbox hb; have BK172 := q_ (hbox); have GW172 := ge_ hg; have GE172 := ge_ hg; replace HB := hb_ hb; clear hb hbox hg) | ((with_reducible refine gate_dst (N := 3) rfl ?_); refine box_event ?hg (N := 3) ?hd (cs := #[.int .i64 a1_0, .int .i64 a1_1]) (t := 92) ?hr ?_; (case hd => rfl); (case hg => rfl); (case hr => exact z95_); intro gb173 hg w5 hbox hb; have BK173 := q_ (hbox); have GW173 := ge_ hg; have GE173 := ge_ hg; replace HB := hb_ hb; have NB172_173 := nl_ hg BK172; have NB173_172 := nr_ hg BK172; replace BK172 := rb_ BK172 hb; clear hb hbox hg; have hnb6 := NB172_173.out; have hnc6 := NB173_172.out; obtain ⟨hz_, hz_, hz_, hz_⟩ := cs2_ BK172.out; obtain ⟨hz_, hz_, hz_, hz_⟩ := cs2_ BK173.out))
 (try simp only [Act.put, List.setIfInBounds_toArray, List.set_cons_zero, List.set_cons_succ])
 have H := HC3.out
 clear HC3
 replace H := ke_ H; rcases H with ⟨c9b0, c9b1, H⟩ | ⟨c9, c9b0, c9b1, H⟩
 ·(first | rw [c9b0] | rw [c9b1] | (simp only [i64_w, i32_w]; first | rw [c9b0] | rw [c9b1]) | rw [c9b2] | skip)
  have HC10 := q_ H
  clear H
  have hnb11 := NB172_173.out
  have hnc11 := NB173_172.out
  obtain ⟨hz_, hz_, hz_, hz_⟩ := cs2_ BK172.out
  obtain ⟨hz_, hz_, hz_, hz_⟩ := cs2_ BK173.out
  go_upto_if 14 with (fail)
  have H := HC10.out
  clear HC10
  replace H := ke_ H; rcases H with ⟨c14b0, c14b1, H⟩ | ⟨c14, c14b0, c14b1, H⟩
  ·(first | rw [c14b0] | rw [c14b1] | (simp only [i64_w, i32_w]; first | rw [c14b0] | rw [c14b1]) | rw [c14b2] | skip)
   obtain rfl := si_ H
   go_wp2
   go_ret
   exact ⟨z2_, cb_⟩
  ·(first | rw [c14b0] | rw [c14b1] | (simp only [i64_w, i32_w]; first | rw [c14b0] | rw [c14b1]) | rw [c14b2] | skip)
   obtain rfl := si_ H
   go_wp2
   go_ret
   exact ⟨z2_, cb_⟩
 ·(first | rw [c9b0] | rw [c9b1] | (simp only [i64_w, i32_w]; first | rw [c9b0] | rw [c9b1]) | rw [c9b2] | skip)
  obtain rfl := si_ H
  go_wp2
  go_ret
  exact ⟨z2_, cb_⟩

end Go.Proofs.Ytfnndcpaldkkoaa.PFnExactTreeRange
