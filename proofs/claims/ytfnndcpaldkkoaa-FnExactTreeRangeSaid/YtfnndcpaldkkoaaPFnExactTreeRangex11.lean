-- Written by a program of this session, which goes by the kit's print. Not trusted: Lean checks it.
import Derived.Test.YtfnndcpaldkkoaaPFnExactTreeRangex0
import Derived.Test.YtfnndcpaldkkoaaPFnExactTreeRangex7
import Derived.Test.YtfnndcpaldkkoaaPFnExactTreeRangex8
import Derived.Test.YtfnndcpaldkkoaaPFnExactTreeRangex10
namespace Go.Proofs.Ytfnndcpaldkkoaa.PFnExactTreeRange
open Go.RowKit Go.Proofs.YtfnndcpaldkkoaaW.PrintWords Go.Proofs.YtfnndcpaldkkoaaW.PrintLast Go.Proofs.YtfnndcpaldkkoaaW.PrintMore
attribute [local go_sem] Instr.field asAgg max2_int min2_int max_two min_two max_three min_three max_four min_four   -- for this text's walks alone
set_option linter.unusedVariables false
set_option linter.unusedSimpArgs false

/-! ### spec_MapDo: function 112 -/
def spec_MapDo.j0 : Nat → List (S92) → Bool → Int → Int → Int → Option ((List (S92)))
 | 0, _, _, _, _, _ => none
 | k + 1, x0, x14, x262000, x262001, x262002 => if x14 = true then ((some (([] : List (S92)) : List (S92))).bind fun y264 => (if y264.length + x0.length < 8796093022208 then (some (y264 ++ x0)) else (none))) else ((spec_MapGet.f k x0 x262001).bind fun bt270 => (if x262000 = 1 then ((spec_l1Put.f k x0 x262001 x262002).bind fun t272 => (some t272)) else (if x262000 = 2 then ((spec_l1Without.f k x0 x262001).bind fun t275 => (some t275)) else (if x262000 = 3 then ((spec_l1Clamp.f (wrap64 (bt270.1 + x262002))).bind fun t278 => ((spec_l1Put.f k x0 x262001 t278).bind fun t279 => (some t279))) else ((some (([] : List (S92)) : List (S92))).bind fun y282 => (if y282.length + x0.length < 8796093022208 then (some (y282 ++ x0)) else (none)))))))
def spec_MapDo.f (k : Nat) (l0 : List (S92)) (a1_0 : Int) (a1_1 : Int) (a1_2 : Int) : Option ((List (S92))) := (spec_MapOk.f k l0).bind fun t262 => (if t262 = true then ((spec_MsgOk.f a1_0 a1_1 a1_2).bind fun t263 => (spec_MapDo.j0 k l0 (!t263) a1_0 a1_1 a1_2)) else (spec_MapDo.j0 k l0 true a1_0 a1_1 a1_2))
theorem spec_MapDo.mono_l : ∀ k, (∀ y0 y1 y2 y3 y4, LeO (spec_MapDo.j0 k y0 y1 y2 y3 y4) (spec_MapDo.j0 (k + 1) y0 y1 y2 y3 y4))
 | 0 => fun _ _ _ _ _ r h => by simp [spec_MapDo.j0] at h
 | k + 1 => by
  have ih0 := spec_MapDo.mono_l k
  ·intro y0 y1 y2 y3 y4
   unfold spec_MapDo.j0
   have m0 := @spec_MapGet.mono
   have m1 := @spec_MapOk.mono
   have m2 := @spec_l1Put.mono
   have m3 := @spec_l1Without.mono
   exact zm_
theorem spec_MapDo.mono : ∀ a0 a1 a2 a3 k, LeO (spec_MapDo.f k a0 a1 a2 a3) (spec_MapDo.f (k + 1) a0 a1 a2 a3) := by
 intro a0 a1 a2 a3 k
 have ih0 := spec_MapDo.mono_l k
 unfold spec_MapDo.f
 have m0 := @spec_MapGet.mono
 have m1 := @spec_MapOk.mono
 have m2 := @spec_l1Put.mono
 have m3 := @spec_l1Without.mono
 exact zm_
def spec_MapDo.T10 : Bool × List (List Nat × List Nat) := (true, [([], []), ([], []), ([1], [1]), ([], []), ([], []), ([4], [4]), ([3, 5], [3, 5]), ([6], [6]), ([0, 2, 7, 7], [0, 2, 7]), ([8, 8, 0, 1, 2, 3, 4, 5, 6, 7, 8], [8])])
def spec_MapDo.B10 : List Nat := [0, 0, 2, 0, 0, 16, 56, 120, 255, 511]
theorem spec_MapDo.tab10 : rtab .any (opsOf Try.f112 10) = spec_MapDo.T10 := by kernel_rfl
theorem spec_MapDo.bits10 : waitsOk spec_MapDo.T10.2 spec_MapDo.B10 = true := by kernel_rfl
set_option maxHeartbeats 8000000 in
set_option maxRecDepth 100000 in
theorem spec_MapDo.calls (k : Nat) (A0 : Option Addr) (c0 : Nat) (l0 : List (S92)) (a1_0 : Int) (a1_1 : Int) (a1_2 : Int) (r : List (S92)) (w : World) (hr0 : Kd.C k92 w A0 l0.length l0) (hc0 : l0.length ≤ c0) (h : spec_MapDo.f k l0 a1_0 a1_1 a1_2 = some r) :
  Calls Try.prog 112 #[.slice A0 l0.length c0, .agg #[.int .i64 a1_0, .int .i64 a1_1, .int .i64 a1_2]] w fun e w' => ∃ v0_ : Value, e = .returned (v0_) ∧ Kd.R k92 92 w' w.heap.size (fun _ => True) v0_ r ∧ Below w.heap.size w w' := by
 have hu72 := Try.underlying72
 have HR0 := q_ hr0
 have HC0 := q_ hc0
 clear hr0 hc0
 have HB := q_ (Below.refl w.heap.size w)
 have H := h; clear h
 unfold spec_MapDo.f at H
 have HC3 := q_ H
 clear H
 go_enter Try.func112, Try.ntmps112
 go_upto_region 1 with (first | ((with_reducible refine gate_dst (N := 3) rfl ?_); refine box_event ?hg (N := 3) ?hd (cs := #[.int .i64 a1_0, .int .i64 a1_1, .int .i64 a1_2]) (t := 72) ?hr ?_; (case hd => rfl); (case hg => rfl); (case hr => exact z95_); intro gb261 hg w4 hbox hb; have BK261 := q_ (hbox); have GW261 := ge_ hg; have GE261 := ge_ hg; replace HB := hb_ hb; clear hb hbox hg))
 (try simp only [Act.put, List.setIfInBounds_toArray, List.set_cons_zero, List.set_cons_succ])
 go_cut [14] (fun v14 wc => ∃ (kq : Nat) (x14_2 : Bool), v14 = .bool x14_2 ∧ Aside0 (spec_MapDo.j0 kq l0 x14_2 a1_0 a1_1 a1_2 = some r) ∧ Aside0 (kq ≤ k) ∧ Aside0 (wc.heap[gb261]? = some (.cells #[.int .i64 a1_0, .int .i64 a1_1, .int .i64 a1_2] 72 (0, 0))) ∧ Aside0 (Below w.heap.size w wc))
 case first =>
  have H := HC3.out
  clear HC3
  replace H := bi_ H; obtain ⟨t262, A5, H⟩ := H
  replace H := kb_ H; rcases H with ⟨rfl, H⟩ | ⟨rfl, H⟩
  ·replace H := bi_ H; obtain ⟨t263, A7, H⟩ := H
   have H' := q_ H
   clear H
   go_wp2_with (first | ((with_reducible refine gate_callee (f := 120) rfl ?_); refine goesL_ (some 8) rfl rfl Try.func120 (by kernel_rfl) rfl #[.slice A0 l0.length c0] rfl z0_ ?_; (with_reducible refine (spec_MapOk.calls k _ _ l0 true _ ?side1 ?side2 A5.out).mono ?_); (case side1 => exact z99_); (case side2 => exact HC0.out); rintro e w8 ⟨rfl, hb⟩; refine ⟨_, rfl, ?_⟩; replace BK261 := rb_ BK261 hb; replace HB := hb_ hb; (try clear hb); (try clear hb2); (try clear hk); (try clear hi); obtain ⟨hz_, hz_, hz_, hz_, hz_, hz_⟩ := cs3_ BK261.out) | (go_at_call 98; (with_reducible refine (spec_MsgOk.calls a1_0 a1_1 a1_2 t263 _ A7.out).mono ?_); rintro e w10 ⟨rfl, hb⟩; replace BK261 := rb_ BK261 hb; replace HB := hb_ hb; (try clear hb); (try clear hb2); (try clear hk); (try clear hi)))
   go_meet
   case rel => exact ⟨_, (!t263), z4_, H', ⟨z34_⟩, ⟨z59_⟩, ⟨cb_⟩⟩
  ·have H' := q_ H
   clear H
   go_wp2_with (first | ((with_reducible refine gate_callee (f := 120) rfl ?_); refine goesL_ (some 8) rfl rfl Try.func120 (by kernel_rfl) rfl #[.slice A0 l0.length c0] rfl z0_ ?_; (with_reducible refine (spec_MapOk.calls k _ _ l0 false _ ?side1 ?side2 A5.out).mono ?_); (case side1 => exact z99_); (case side2 => exact HC0.out); rintro e w11 ⟨rfl, hb⟩; refine ⟨_, rfl, ?_⟩; replace BK261 := rb_ BK261 hb; replace HB := hb_ hb; (try clear hb); (try clear hb2); (try clear hk); (try clear hi)))
   go_meet
   case rel => exact ⟨_, (true), z4_, H', ⟨z34_⟩, ⟨z59_⟩, ⟨cb_⟩⟩
 case rest =>
  clear HC3
  try clear c1
  try clear p2
  try clear c6
  try clear c11
  repeat clear hz_
  obtain ⟨kq, x14_2, rfl, HA, HJ2, BK261, HB⟩ := hcut
  obtain ⟨kj2, rfl, H⟩ := rn_ (k := kq) HA (by rintro rfl; simp only [spec_MapDo.j0])
  clear HA
  simp only [spec_MapDo.j0] at H
  replace H := kb_ H; rcases H with ⟨rfl, H⟩ | ⟨rfl, H⟩
  ·obtain ⟨y264, hy_⟩ : ∃ y_ : List (S92), y_ = (([] : List (S92))) := ⟨_, rfl⟩
   replace H : (if y264.length + l0.length < 8796093022208 then (some (y264 ++ l0)) else (none)) = some r := z3_
   have Ny264 := q_ hy_
   clear hy_
   replace H := kln_ H; obtain ⟨LMc13, H⟩ := H
   obtain ⟨y267, hy_⟩ : ∃ y_ : List (S92), y_ = (y264 ++ l0) := ⟨_, rfl⟩
   replace H : (some y267) = some r := z3_
   have Ny267 := q_ hy_
   clear hy_
   obtain rfl := si_ H
   go_wp2_with (first | ((with_reducible refine gate_dst (N := 15) rfl ?_); refine Kd.R_lit k92 _ 92 ?hg (N := 15) ?hd (xs := ([] : List (S92))) (inner := []) (ok := fun _ => True) (okp := fun _ => True) ?hr ?hp (fun _ hk => hk) trivial (Below.refl _ _) (Nat.le_refl _) (by simp) ?_; (case hd => rfl); (case hg => rfl); (case hr => exact z95_); (case hp => exact z128_); intro v265 w14 ho15 hb hg_ hnew_; clear hg_ hnew_; (first | rw [← Ny264.out] at ho15 | (simp only [Int.reduceToNat] at ho15; rw [← Ny264.out] at ho15)); have HO266 := q_ (Kd.R_lower ho15 (below_size cb_)); replace HB := hb_ hb; clear hb ho15) | ((with_reducible refine gate_builtin (b := .append) (xs := #[.tmp 15, .tmp 16]) rfl ?_); at_builtin; refine Kd.R_append_rows k92 (w0 := w) w.heap.size rfl (.tmp 15) (.tmp 16) 30 92 (.agg #[(.int .i64 0), (.int .i64 0)]) 16 rfl Try.underlying30 info92 rfl (by decide) (by omega) v265 y264 l0 _ _ _ (fun _ => True) (fun _ => False) rfl rfl ?aO ?aR (fun _ _ h => h) (fun _ h => h.elim) ?aF ?aB ?aS ?aL ?_; (case aR => exact z99_); (case aB => exact cb_); (case aF => exact z127_); (case aO => exact (by (with_reducible repeat (first | apply Kd.R_alloc | apply Kd.R_drewN | apply Kd.R_drew)); exact HO266.out)); (case aS => exact z125_); (case aL => have := LMc13.out; omega); intro v268 w16 ho hb hg hat; rw [← Ny267.out] at ho; replace HB := q_ (hb); have HO269 := q_ (ho); clear HO266; clear ho hb hg hat))
   go_ret
   exact ⟨_, z2_, by (with_reducible repeat (first | apply Kd.R_alloc | apply Kd.R_drewN | apply Kd.R_drew)); exact HO269.out, cb_⟩
  ·replace H := bi_ H; obtain ⟨⟨t270, t271⟩, A17, H⟩ := H
   (try dsimp only at H)
   have HC18 := q_ H
   clear H
   obtain ⟨hz_, hz_, hz_, hz_, hz_, hz_⟩ := cs3_ BK261.out
   go_upto_if 27 with (first | ((with_reducible refine gate_callee (f := 79) rfl ?_); refine goesL_ (some 22) rfl rfl Try.func79 (by kernel_rfl) rfl #[.slice A0 l0.length c0, .int .i64 a1_1] rfl z0_ ?_; (with_reducible refine (spec_MapGet.calls kj2 _ _ l0 a1_1 t270 t271 _ ?side1 ?side2 A17.out).mono ?_); (case side1 => exact z99_); (case side2 => exact HC0.out); rintro e w' ⟨rfl, ⟨nd, rfl⟩⟩; refine ⟨_, rfl, ?_⟩))
   (try simp only [Act.put, List.setIfInBounds_toArray, List.set_cons_zero, List.set_cons_succ])
   have H := HC18.out
   clear HC18
   replace H := ke_ H; rcases H with ⟨c20b0, c20b1, H⟩ | ⟨c20, c20b0, c20b1, H⟩
   ·(first | rw [c20b0] | rw [c20b1] | (simp only [i64_w, i32_w]; first | rw [c20b0] | rw [c20b1]) | rw [c20b2] | skip)
    replace H := bi_ H; obtain ⟨t272, A21, H⟩ := H
    obtain rfl := si_ H
    obtain ⟨hz_, hz_, hz_, hz_, hz_, hz_⟩ := cs3_ BK261.out
    go_wp2_with (first | ((with_reducible refine gate_callee (f := 129) rfl ?_); refine goesL_ (some 34) rfl rfl Try.func129 (by kernel_rfl) rfl #[.slice A0 l0.length c0, .int .i64 a1_1, .int .i64 a1_2] rfl z0_ ?_; (with_reducible refine (spec_l1Put.calls kj2 _ _ l0 a1_1 a1_2 t272 _ ?side1 ?side2 A21.out).mono ?_); (case side1 => exact z113_); (case side2 => exact HC0.out); rintro e w23 ⟨v273, rfl, ho0, hb⟩; refine ⟨_, rfl, ?_⟩; have HO274 := q_ (Kd.R_lower ho0 (below_size cb_)); replace HB := hb_ hb; (try clear hb); (try clear hb2); (try clear hk); (try clear hi); (try clear ho0)))
    go_ret
    exact ⟨_, z2_, by (with_reducible repeat (first | apply Kd.R_alloc | apply Kd.R_drewN | apply Kd.R_drew)); exact HO274.out, cb_⟩
   ·(first | rw [c20b0] | rw [c20b1] | (simp only [i64_w, i32_w]; first | rw [c20b0] | rw [c20b1]) | rw [c20b2] | skip)
    replace H := ke_ H; rcases H with ⟨c24b0, c24b1, H⟩ | ⟨c24, c24b0, c24b1, H⟩
    ·replace H := bi_ H; obtain ⟨t275, A25, H⟩ := H
     obtain rfl := si_ H
     obtain ⟨hz_, hz_, hz_, hz_, hz_, hz_⟩ := cs3_ BK261.out
     go_wp2_with (first | ((with_reducible refine gate_callee (f := 130) rfl ?_); refine goesL_ (some 40) rfl rfl Try.func130 (by kernel_rfl) rfl #[.slice A0 l0.length c0, .int .i64 a1_1] rfl z0_ ?_; (with_reducible refine (spec_l1Without.calls kj2 _ _ l0 a1_1 t275 _ ?side1 ?side2 A25.out).mono ?_); (case side1 => exact z113_); (case side2 => exact HC0.out); rintro e w27 ⟨v276, rfl, ho0, hb⟩; refine ⟨_, rfl, ?_⟩; have HO277 := q_ (Kd.R_lower ho0 (below_size cb_)); replace HB := hb_ hb; (try clear hb); (try clear hb2); (try clear hk); (try clear hi); (try clear ho0)))
     go_ret
     exact ⟨_, z2_, by (with_reducible repeat (first | apply Kd.R_alloc | apply Kd.R_drewN | apply Kd.R_drew)); exact HO277.out, cb_⟩
    ·replace H := ke_ H; rcases H with ⟨c28b0, c28b1, H⟩ | ⟨c28, c28b0, c28b1, H⟩
     ·replace H := bi_ H; obtain ⟨t278, A29, H⟩ := H
      replace H := bi_ H; obtain ⟨t279, A30, H⟩ := H
      obtain rfl := si_ H
      try go_wp2
      (try (rw [drewN_self wc]; generalize hq_ : World.drewN wc _ = wc; have n0_ : Aside0 (wc.heap[gb261]? = some (.cells #[.int .i64 a1_0, .int .i64 a1_1, .int .i64 a1_2] 72 (0, 0))) := ⟨by rw [← hq_]; exact z59_⟩; have n1_ : Aside0 (Below w.heap.size w wc) := ⟨by rw [← hq_]; exact cb_⟩; clear BK261 HB hq_; have BK261 := n0_; have HB := n1_; clear n0_ n1_)); obtain ⟨hcq261_0, hcq261_1, hcq261_2, hfq261_0, hfq261_1, hfq261_2⟩ := cs3_ BK261.out
      replace BK261 := q_ (blk_drew BK261.out)
      replace HB := q_ (below_drew1 HB.out)
      refine start_ (n := 10) (S := fun w' => w'.cell? ⟨gb261, 0, none⟩ = some (.int .i64 a1_0) ∧ w'.cell? ⟨gb261, 1, none⟩ = some (.int .i64 a1_1) ∧ w'.cell? ⟨gb261, 2, none⟩ = some (.int .i64 a1_2)) (ds := []) (tf 0 10) (by kernel_rfl) rfl rfl ⟨(blk_cell BK261.out 0).trans rfl, (blk_cell BK261.out 1).trans rfl, (blk_cell BK261.out 2).trans rfl⟩ (fun hHeld => ?_); refine with_tabW spec_MapDo.tab10 spec_MapDo.bits10 (fun HT_ HW_ => ?_)
      generalize wc.drew = w31 at BK261 HB hHeld ⊢
      refine p1_ 0 (some 43) (tf 1 9) HT_.out ?_
      refine p1_ 1 (some 44) (tf 2 8) HT_.out ?_
      refine p1_ 3 (some 46) #[true, true, false, true, false, false, false, false, false, false] HT_.out ?_
      refine p1_ 4 (some 47) #[true, true, false, true, true, false, false, false, false, false] HT_.out ?_
      refine take_ (i := 2) (N := some 45) (v := ?_) (a' := ?_) (tf 5 5) rfl rfl (take_ofW HT_.out HW_.out (by kernel_rfl)) (fun _ _ _ h => h) (Or.inl ⟨by rfl, ?_⟩) hHeld ?_ ?_
      rotate_left
      ·rintro w' ⟨s0, s1, s2⟩
       go_simp
       with_reducible rfl
      rotate_left
      ·simp only [Act.put, List.setIfInBounds_toArray, List.set_cons_zero, List.set_cons_succ, i64_w, i32_w]
       rfl
      refine take_ (i := 5) (N := some 48) (v := ?_) (a' := ?_) (tf 6 4) rfl rfl (take_ofW HT_.out HW_.out (by kernel_rfl)) (fun _ _ _ h => h) (Or.inl ⟨by rfl, ?_⟩) hHeld ?_ ?_
      rotate_left
      ·rintro w' ⟨s0, s1, s2⟩
       go_simp
       with_reducible rfl
      rotate_left
      ·simp only [Act.put, List.setIfInBounds_toArray, List.set_cons_zero, List.set_cons_succ, i64_w, i32_w]
       rfl
      refine p1_ 6 (some 49) (tf 7 3) HT_.out ?_
      refine one_ (i := 7) (N := some 50) (tf 8 2) rfl rfl (one_of HT_.out (by kernel_rfl)) (by decide) (fun K hK => ?_)
      refine goes_ Try.func131 (by kernel_rfl) rfl #[.int .i64 (wrap64 (t270 + a1_2))] (by rfl) rfl rfl z0_ ?_
      with_reducible refine (spec_l1Clamp.calls (wrap64 (t270 + a1_2)) t278 _ A29.out).mono ?_
      rintro e w' ⟨rfl, ⟨nd, rfl⟩⟩
      refine ⟨_, rfl, ?_⟩
      refine hK.out _ _ ⟨(blk_cell BK261.out 0).trans rfl, (blk_cell BK261.out 1).trans rfl, (blk_cell BK261.out 2).trans rfl⟩ (fun hHeld => ?_)
      clear hK K
      refine norm_ (a' := ?_) ?_ ?_
      rotate_left
      ·show Act.put _ (some 50) _ = _
       simp only [Act.put, List.setIfInBounds_toArray, List.set_cons_zero, List.set_cons_succ, i64_w, i32_w]
       rfl
      refine one_ (i := 8) (N := some 51) (tf 9 1) rfl rfl (one_of HT_.out (by kernel_rfl)) (by decide) (fun K hK => ?_)
      refine goes_ Try.func129 (by kernel_rfl) rfl #[.slice A0 l0.length c0, .int .i64 a1_1, .int .i64 t278] (by rfl) rfl rfl z0_ ?_
      with_reducible refine (spec_l1Put.calls kj2 _ _ l0 a1_1 t278 t279 _ ?side1 ?side2 A30.out).mono ?_
      (case side1 => exact z113_)
      (case side2 => exact HC0.out)
      rintro e w32 ⟨v280, rfl, ho0, hb⟩
      refine ⟨_, rfl, ?_⟩
      have HO281 := q_ (Kd.R_lower ho0 (below_size cb_))
      replace BK261 := rb_ BK261 hb
      replace HB := hb_ hb
      (try clear hb)
      (try clear hb2)
      (try clear hk)
      (try clear hi)
      (try clear ho0)
      refine hK.out _ _ ⟨(blk_cell BK261.out 0).trans rfl, (blk_cell BK261.out 1).trans rfl, (blk_cell BK261.out 2).trans rfl⟩ (fun hHeld => ?_)
      clear hK K
      refine norm_ (a' := ?_) ?_ ?_
      rotate_left
      ·show Act.put _ (some 51) _ = _
       simp only [Act.put, List.setIfInBounds_toArray, List.set_cons_zero, List.set_cons_succ, i64_w, i32_w]
       rfl
      refine p1_ 9 (some 4) (tf 10 0) HT_.out ?_
      refine done_ (done_of HT_.out (by kernel_rfl)) ?_
      try go_wp2
      go_ret
      exact ⟨_, z2_, by (with_reducible repeat (first | apply Kd.R_alloc | apply Kd.R_drewN | apply Kd.R_drew)); exact HO281.out, cb_⟩
     ·obtain ⟨y282, hy_⟩ : ∃ y_ : List (S92), y_ = (([] : List (S92))) := ⟨_, rfl⟩
      replace H : (if y282.length + l0.length < 8796093022208 then (some (y282 ++ l0)) else (none)) = some r := z3_
      have Ny282 := q_ hy_
      clear hy_
      replace H := kln_ H; obtain ⟨LMc33, H⟩ := H
      obtain ⟨y285, hy_⟩ : ∃ y_ : List (S92), y_ = (y282 ++ l0) := ⟨_, rfl⟩
      replace H : (some y285) = some r := z3_
      have Ny285 := q_ hy_
      clear hy_
      obtain rfl := si_ H
      go_wp2_with (first | ((with_reducible refine gate_dst (N := 52) rfl ?_); refine Kd.R_lit k92 _ 92 ?hg (N := 52) ?hd (xs := ([] : List (S92))) (inner := []) (ok := fun _ => True) (okp := fun _ => True) ?hr ?hp (fun _ hk => hk) trivial (Below.refl _ _) (Nat.le_refl _) (by simp) ?_; (case hd => rfl); (case hg => rfl); (case hr => exact z95_); (case hp => exact z128_); intro v283 w34 ho35 hb hg_ hnew_; clear hg_ hnew_; (first | rw [← Ny282.out] at ho35 | (simp only [Int.reduceToNat] at ho35; rw [← Ny282.out] at ho35)); have HO284 := q_ (Kd.R_lower ho35 (below_size cb_)); replace HB := hb_ hb; clear hb ho35) | ((with_reducible refine gate_builtin (b := .append) (xs := #[.tmp 52, .tmp 53]) rfl ?_); at_builtin; refine Kd.R_append_rows k92 (w0 := w) w.heap.size rfl (.tmp 52) (.tmp 53) 30 92 (.agg #[(.int .i64 0), (.int .i64 0)]) 16 rfl Try.underlying30 info92 rfl (by decide) (by omega) v283 y282 l0 _ _ _ (fun _ => True) (fun _ => False) rfl rfl ?aO ?aR (fun _ _ h => h) (fun _ h => h.elim) ?aF ?aB ?aS ?aL ?_; (case aR => exact z99_); (case aB => exact cb_); (case aF => exact z127_); (case aO => exact (by (with_reducible repeat (first | apply Kd.R_alloc | apply Kd.R_drewN | apply Kd.R_drew)); exact HO284.out)); (case aS => exact z125_); (case aL => have := LMc33.out; omega); intro v286 w36 ho hb hg hat; rw [← Ny285.out] at ho; replace HB := q_ (hb); have HO287 := q_ (ho); clear HO284; clear ho hb hg hat))
      go_ret
      exact ⟨_, z2_, by (with_reducible repeat (first | apply Kd.R_alloc | apply Kd.R_drewN | apply Kd.R_drew)); exact HO287.out, cb_⟩

/-! ### spec_MapAll: function 80 -/
def spec_MapAll.l0 : Nat → List (S72) → List (S92) → Int → Option ((List (S92)))
 | 0, _, _, _ => none
 | k + 1, x1, x5, x6 => if x6 < (x1.length : Int) then (if 0 ≤ x6 then ((spec_MapDo.f k x5 ((rd_T72 x1 x6).f0) ((rd_T72 x1 x6).f1) ((rd_T72 x1 x6).f2)).bind fun t295 => (spec_MapAll.l0 k x1 t295 (wrap64 (x6 + 1)))) else (none)) else (some x5)
def spec_MapAll.f (k : Nat) (l0 : List (S92)) (l1 : List (S72)) : Option ((List (S92))) := (some (([] : List (S92)) : List (S92))).bind fun y288 => (if y288.length + l0.length < 8796093022208 then (spec_MapAll.l0 k l1 (y288 ++ l0) 0) else (none))
theorem spec_MapAll.mono_l : ∀ k, (∀ y0 y1 y2, LeO (spec_MapAll.l0 k y0 y1 y2) (spec_MapAll.l0 (k + 1) y0 y1 y2))
 | 0 => fun _ _ _ r h => by simp [spec_MapAll.l0] at h
 | k + 1 => by
  have ih0 := spec_MapAll.mono_l k
  ·intro y0 y1 y2
   unfold spec_MapAll.l0
   have m0 := @spec_MapDo.mono
   exact zm_
theorem spec_MapAll.mono : ∀ a0 a1 k, LeO (spec_MapAll.f k a0 a1) (spec_MapAll.f (k + 1) a0 a1) := by
 intro a0 a1 k
 have ih0 := spec_MapAll.mono_l k
 unfold spec_MapAll.f
 have m0 := @spec_MapDo.mono
 exact zm_
set_option maxHeartbeats 8000000 in
set_option maxRecDepth 100000 in
theorem spec_MapAll.calls (k : Nat) (A0 : Option Addr) (c0 : Nat) (l0 : List (S92)) (A1 : Option Addr) (c1 : Nat) (l1 : List (S72)) (r : List (S92)) (w : World) (hr0 : Kd.C k92 w A0 l0.length l0) (hc0 : l0.length ≤ c0) (hr1 : Kd.C k72 w A1 l1.length l1) (hc1 : l1.length ≤ c1) (h : spec_MapAll.f k l0 l1 = some r) :
  Calls Try.prog 80 #[.slice A0 l0.length c0, .slice A1 l1.length c1] w fun e w' => ∃ v0_ : Value, e = .returned (v0_) ∧ Kd.R k92 92 w' w.heap.size (fun _ => True) v0_ r ∧ Below w.heap.size w w' := by
 have hu72 := Try.underlying72
 have HR0 := q_ hr0
 have HC0 := q_ hc0
 clear hr0 hc0
 have HR1 := q_ hr1
 have HC1 := q_ hc1
 clear hr1 hc1
 have HB := q_ (Below.refl w.heap.size w)
 have H := h; clear h
 unfold spec_MapAll.f at H
 obtain ⟨y288, hy_⟩ : ∃ y_ : List (S92), y_ = (([] : List (S92))) := ⟨_, rfl⟩
 replace H : (if y288.length + l0.length < 8796093022208 then (spec_MapAll.l0 k l1 (y288 ++ l0) 0) else (none)) = some r := z3_
 have Ny288 := q_ hy_
 clear hy_
 replace H := kln_ H; obtain ⟨LMc3, H⟩ := H
 obtain ⟨y291, hy_⟩ : ∃ y_ : List (S92), y_ = (y288 ++ l0) := ⟨_, rfl⟩
 replace H : (spec_MapAll.l0 k l1 y291 0) = some r := z3_
 have Ny291 := q_ hy_
 clear hy_
 have H' := q_ H
 clear H
 go_enter Try.func80, Try.ntmps80
 go_wp2_with (first | ((with_reducible refine gate_dst (N := 7) rfl ?_); refine Kd.R_lit k92 _ 92 ?hg (N := 7) ?hd (xs := ([] : List (S92))) (inner := []) (ok := fun _ => True) (okp := fun _ => True) ?hr ?hp (fun _ hk => hk) trivial (Below.refl _ _) (Nat.le_refl _) (by simp) ?_; (case hd => rfl); (case hg => rfl); (case hr => exact z95_); (case hp => exact z128_); intro v289 w4 ho5 hb hg_ hnew_; clear hg_ hnew_; (first | rw [← Ny288.out] at ho5 | (simp only [Int.reduceToNat] at ho5; rw [← Ny288.out] at ho5)); have HO290 := q_ (Kd.R_lower ho5 (below_size cb_)); replace HB := hb_ hb; clear hb ho5) | ((with_reducible refine gate_builtin (b := .append) (xs := #[.tmp 7, .tmp 8]) rfl ?_); at_builtin; refine Kd.R_append_rows k92 (w0 := w) w.heap.size rfl (.tmp 7) (.tmp 8) 30 92 (.agg #[(.int .i64 0), (.int .i64 0)]) 16 rfl Try.underlying30 info92 rfl (by decide) (by omega) v289 y288 l0 _ _ _ (fun _ => True) (fun _ => False) rfl rfl ?aO ?aR (fun _ _ h => h) (fun _ h => h.elim) ?aF ?aB ?aS ?aL ?_; (case aR => exact z99_); (case aB => exact cb_); (case aF => exact z127_); (case aO => exact (by (with_reducible repeat (first | apply Kd.R_alloc | apply Kd.R_drewN | apply Kd.R_drew)); exact HO290.out)); (case aS => exact z125_); (case aL => have := LMc3.out; omega); intro v292 w6 ho hb hg hat; rw [← Ny291.out] at ho; replace HB := q_ (hb); have HO293 := q_ (ho); clear HO290; clear ho hb hg hat))
 go_loopg [5, 6] k (fun kq v5 v6 w' => ∃ (x5_1 : List (S92)) (x6_1 : Int), v6 = .int .i64 x6_1 ∧ Aside0 (spec_MapAll.l0 kq l1 x5_1 x6_1 = some r) ∧ Aside0 (kq ≤ k) ∧ Aside0 (Kd.R k92 92 w' w.heap.size (fun _ => True) v5 x5_1) ∧ Aside0 (Below w.heap.size w w'))
 case atStart => exact ⟨(y291), (0), z4_, H', ⟨Nat.le_refl _⟩, ⟨by (with_reducible repeat (first | apply Kd.R_alloc | apply Kd.R_drewN | apply Kd.R_drew)); exact HO293.out⟩, ⟨cb_⟩⟩
 case round =>
  clear H'
  try clear c1
  try clear p2
  try clear c3
  obtain ⟨x5_1, x6_1, rfl, HA, HK1, HO_5, HB⟩ := hrel
  obtain ⟨k1, rfl, H⟩ := rn_ (k := gk) HA (by rintro rfl; simp only [spec_MapAll.l0])
  clear HA
  simp only [spec_MapAll.l0] at H
  replace H := kd_ H; rcases H with ⟨c7b0, H⟩ | ⟨c7b0, H⟩
  ·replace H := kdn_ H; obtain ⟨c8b0, H⟩ := H
   replace H := bi_ H; obtain ⟨t295, A9, H⟩ := H
   have H' := q_ H
   clear H
   have p294 : 0 ≤ (x6_1 : Int) := of_decide_eq_true z1_
   have q294 : x6_1 < (l1.length : Int) := of_decide_eq_true z1_
   obtain ⟨ad294, e294, hx294_0, hx294_1, hx294_2⟩ := at_T72 HR1.out x6_1 p294 q294
   cases e294
   replace hx294_0 := up_ HB hx294_0
   replace hx294_1 := up_ HB hx294_1
   replace hx294_2 := up_ HB hx294_2
   replace p294 := eq_true p294
   replace q294 := eq_true q294
   obtain ⟨Ao10, co10, eo10⟩ := Kd.R_slice HO_5.out
   subst eo10
   go_wp2_with (first | ((with_reducible refine gate_callee (f := 112) rfl ?_); refine goesL_ (some 21) rfl rfl Try.func112 (by kernel_rfl) rfl #[.slice Ao10 x5_1.length co10, .agg #[.int .i64 ((rd_T72 l1 x6_1).f0), .int .i64 ((rd_T72 l1 x6_1).f1), .int .i64 ((rd_T72 l1 x6_1).f2)]] rfl z0_ ?_; (with_reducible refine (spec_MapDo.calls k1 _ _ x5_1 ((rd_T72 l1 x6_1).f0) ((rd_T72 l1 x6_1).f1) ((rd_T72 l1 x6_1).f2) t295 _ ?side1 ?side2 A9.out).mono ?_); (case side1 => repeat (first | exact (Kd.R_reads' HO_5.out).2.2 | (with_reducible refine Kd.C_alloc ?_ _) | (with_reducible refine Kd.C_drewN ?_ _) | (with_reducible refine Kd.C_drew ?_))); (case side2 => exact (Kd.R_reads' HO_5.out).2.1); rintro e w11 ⟨v296, rfl, ho0, hb⟩; refine ⟨_, rfl, ?_⟩; have HO297 := q_ (Kd.R_lower (Kd.R_new' ho0 (Kd.R_lt z28_)) (below_size cb_)); replace HO_5 := q_ (Kd.R_elder' z28_ (Kd.R_base ho0) hb); replace HB := hb_ hb; (try clear hb); (try clear hb2); (try clear hk); (try clear hi); (try clear ho0)))
   go_roundg k1
   case measure => have := HK1.out; omega
   case rel => exact ⟨(t295), (wrap64 (x6_1 + 1)), z4_, H', ⟨z25_⟩, ⟨by (with_reducible repeat (first | apply Kd.R_alloc | apply Kd.R_drewN | apply Kd.R_drew)); exact Kd.R_mono HO297.out (fun _ hk => trivial)⟩, ⟨cb_⟩⟩
  ·obtain rfl := si_ H
   go_wp2
   go_ret
   exact ⟨_, z2_, z28_, cb_⟩

/-! ### spec_l3Map: function 83 -/
mutual
def spec_l3Map.l0 : Nat → List (S92) → Int → Bool → List (S92) → List Int → List (S34) → List (S72) → Option ((List (S92)))
 | 0, _, _, _, _, _, _, _ => none
 | k + 1, x3, x4, x299000, x299001, x299002, x299003, x299004 => if x4 < (x299003.length : Int) then (if 0 ≤ x4 then ((spec_l3Map.f k ((rd_T34 x299003 x4).f0) ((rd_T34 x299003 x4).f1) ((rd_T34 x299003 x4).f2) ((rd_T34 x299003 x4).f3) ((rd_T34 x299003 x4).f4)).bind fun t306 => (if x3.length + t306.length < 8796093022208 then (spec_l3Map.l0 k (x3 ++ t306) (wrap64 (x4 + 1)) x299000 x299001 x299002 x299003 x299004) else (none))) else (none)) else ((spec_MapAll.f k x3 x299004).bind fun t312 => (some t312))
def spec_l3Map.f : Nat → Bool → List (S92) → List Int → List (S34) → List (S72) → Option ((List (S92)))
 | 0, _, _, _, _, _ => none
 | k + 1, a0_0, l0_1, l0_2, l0_3, l0_4 => (some (([] : List (S92)) : List (S92))).bind fun y299 => (if y299.length + l0_1.length < 8796093022208 then (spec_l3Map.l0 k (y299 ++ l0_1) 0 a0_0 l0_1 l0_2 l0_3 l0_4) else (none))
end
theorem spec_l3Map.mono_l : ∀ k, (∀ y0 y1 y2 y3 y4, LeO (spec_l3Map.f k y0 y1 y2 y3 y4) (spec_l3Map.f (k + 1) y0 y1 y2 y3 y4)) ∧ (∀ y0 y1 y2 y3 y4 y5 y6, LeO (spec_l3Map.l0 k y0 y1 y2 y3 y4 y5 y6) (spec_l3Map.l0 (k + 1) y0 y1 y2 y3 y4 y5 y6))
 | 0 => ⟨fun _ _ _ _ _ r h => by simp [spec_l3Map.f] at h, fun _ _ _ _ _ _ _ r h => by simp [spec_l3Map.l0] at h⟩
 | k + 1 => by
  obtain ⟨ih0, ih1⟩ := spec_l3Map.mono_l k
  refine ⟨?_, ?_⟩
  ·intro y0 y1 y2 y3 y4
   unfold spec_l3Map.f
   have m0 := @spec_MapAll.mono
   exact zm_
  ·intro y0 y1 y2 y3 y4 y5 y6
   unfold spec_l3Map.l0
   have m0 := @spec_MapAll.mono
   exact zm_
theorem spec_l3Map.mono : ∀ a0 a1 a2 a3 a4 k, LeO (spec_l3Map.f k a0 a1 a2 a3 a4) (spec_l3Map.f (k + 1) a0 a1 a2 a3 a4) := by
 intro a0 a1 a2 a3 a4 k
 obtain ⟨ih0, ih1⟩ := spec_l3Map.mono_l k
 exact ih0 a0 a1 a2 a3 a4
set_option maxHeartbeats 8000000 in
set_option maxRecDepth 100000 in
theorem spec_l3Map.calls (k : Nat) : ∀ (a0_0 : Bool) (A0_1 : Option Addr) (c0_1 : Nat) (l0_1 : List (S92)) (A0_2 : Option Addr) (c0_2 : Nat) (l0_2 : List Int) (A0_3 : Option Addr) (c0_3 : Nat) (l0_3 : List (S34)) (A0_4 : Option Addr) (c0_4 : Nat) (l0_4 : List (S72)) (r : List (S92)) (w : World) (hr0_1 : Kd.C k92 w A0_1 l0_1.length l0_1) (hc0_1 : l0_1.length ≤ c0_1) (hr0_2 : Kd.C (Kd.int .i64) w A0_2 l0_2.length l0_2) (hc0_2 : l0_2.length ≤ c0_2) (hr0_3 : Kd.C k34 w A0_3 l0_3.length l0_3) (hc0_3 : l0_3.length ≤ c0_3) (hr0_4 : Kd.C k72 w A0_4 l0_4.length l0_4) (hc0_4 : l0_4.length ≤ c0_4) (h : spec_l3Map.f k a0_0 l0_1 l0_2 l0_3 l0_4 = some r),
  Calls Try.prog 83 #[.agg #[.bool a0_0, .slice A0_1 l0_1.length c0_1, .slice A0_2 l0_2.length c0_2, .slice A0_3 l0_3.length c0_3, .slice A0_4 l0_4.length c0_4]] w fun e w' => ∃ v0_ : Value, e = .returned (v0_) ∧ Kd.R k92 92 w' w.heap.size (fun _ => True) v0_ r ∧ Below w.heap.size w w' := by
 induction k using Nat.strongRecOn with
 | _ k ih =>
 intro a0_0 A0_1 c0_1 l0_1 A0_2 c0_2 l0_2 A0_3 c0_3 l0_3 A0_4 c0_4 l0_4 r w hr0_1 hc0_1 hr0_2 hc0_2 hr0_3 hc0_3 hr0_4 hc0_4 h
 cases k with
 | zero => exact absurd h (by simp [spec_l3Map.f])
 | succ k =>
 simp only [spec_l3Map.f] at h
 have hu34 := Try.underlying34
 have HR0_1 := q_ hr0_1
 have HC0_1 := q_ hc0_1
 clear hr0_1 hc0_1
 have HR0_2 := q_ hr0_2
 have HC0_2 := q_ hc0_2
 clear hr0_2 hc0_2
 have HR0_3 := q_ hr0_3
 have HC0_3 := q_ hc0_3
 clear hr0_3 hc0_3
 have HR0_4 := q_ hr0_4
 have HC0_4 := q_ hc0_4
 clear hr0_4 hc0_4
 have HB := q_ (Below.refl w.heap.size w)
 have H := h; clear h
 obtain ⟨y299, hy_⟩ : ∃ y_ : List (S92), y_ = (([] : List (S92))) := ⟨_, rfl⟩
 replace H : (if y299.length + l0_1.length < 8796093022208 then (spec_l3Map.l0 k (y299 ++ l0_1) 0 a0_0 l0_1 l0_2 l0_3 l0_4) else (none)) = some r := z3_
 have Ny299 := q_ hy_
 clear hy_
 replace H := kln_ H; obtain ⟨LMc2, H⟩ := H
 obtain ⟨y302, hy_⟩ : ∃ y_ : List (S92), y_ = (y299 ++ l0_1) := ⟨_, rfl⟩
 replace H : (spec_l3Map.l0 k y302 0 a0_0 l0_1 l0_2 l0_3 l0_4) = some r := z3_
 have Ny302 := q_ hy_
 clear hy_
 have H' := q_ H
 clear H
 go_enter Try.func83, Try.ntmps83
 go_wp2_with (first | ((with_reducible refine gate_dst (N := 1) rfl ?_); refine box_event ?hg (N := 1) ?hd (cs := #[.bool a0_0, .slice A0_1 l0_1.length c0_1, .slice A0_2 l0_2.length c0_2, .slice A0_3 l0_3.length c0_3, .slice A0_4 l0_4.length c0_4]) (t := 34) ?hr ?_; (case hd => rfl); (case hg => rfl); (case hr => exact z95_); intro gb298 hg w3 hbox hb; have BK298 := q_ (hbox); have GW298 := ge_ hg; have GE298 := ge_ hg; replace HB := hb_ hb; clear hb hbox hg) | ((with_reducible refine gate_dst (N := 5) rfl ?_); refine Kd.R_lit k92 _ 92 ?hg (N := 5) ?hd (xs := ([] : List (S92))) (inner := []) (ok := fun _ => True) (okp := fun _ => True) ?hr ?hp (fun _ hk => hk) trivial (Below.refl _ _) (Nat.le_refl _) (by simp) ?_; (case hd => rfl); (case hg => rfl); (case hr => exact z95_); (case hp => exact z128_); intro v300 w4 ho5 hb hg_ hnew_; clear hg_ hnew_; (first | rw [← Ny299.out] at ho5 | (simp only [Int.reduceToNat] at ho5; rw [← Ny299.out] at ho5)); have HO301 := q_ (Kd.R_lower ho5 (below_size cb_)); replace BK298 := rb_ BK298 hb; replace HB := hb_ hb; clear hb ho5; obtain ⟨hz_, hz_, hz_, hz_, hz_, hz_, hz_, hz_, hz_, hz_⟩ := cs5_ BK298.out) | ((with_reducible refine gate_builtin (b := .append) (xs := #[.tmp 5, .tmp 7]) rfl ?_); at_builtin; refine Kd.R_append_rows k92 (w0 := w) w.heap.size rfl (.tmp 5) (.tmp 7) 30 92 (.agg #[(.int .i64 0), (.int .i64 0)]) 16 rfl Try.underlying30 info92 rfl (by decide) (by omega) v300 y299 l0_1 _ _ _ (fun _ => True) (fun _ => False) rfl rfl ?aO ?aR (fun _ _ h => h) (fun _ h => h.elim) ?aF ?aB ?aS ?aL ?_; (case aR => exact z94_); (case aB => exact cb_); (case aF => exact z127_); (case aO => exact (by (with_reducible repeat (first | apply Kd.R_alloc | apply Kd.R_drewN | apply Kd.R_drew)); exact HO301.out)); (case aS => exact z125_); (case aL => have := LMc2.out; omega); intro v303 w7 ho hb hg hat; rw [← Ny302.out] at ho; replace BK298 := q_ (blk_grown (g := gb298) (o := .cells #[.bool a0_0, .slice A0_1 l0_1.length c0_1, .slice A0_2 l0_2.length c0_2, .slice A0_3 l0_3.length c0_3, .slice A0_4 l0_4.length c0_4] 34 (0, 0)) z48_ hg (Kd.R_ne HO301.out BK298.out (by decide))); replace HB := q_ (hb); have HO304 := q_ (ho); clear HO301; clear ho hb hg hat))
 go_loopg [3, 4] k (fun kq v3 v4 w' => ∃ (x3_1 : List (S92)) (x4_1 : Int), v4 = .int .i64 x4_1 ∧ Aside0 (spec_l3Map.l0 kq x3_1 x4_1 a0_0 l0_1 l0_2 l0_3 l0_4 = some r) ∧ Aside0 (kq ≤ k) ∧ Aside0 (Kd.R k92 92 w' w.heap.size (fun _ => True) v3 x3_1) ∧ Aside0 (w'.heap[gb298]? = some (.cells #[.bool a0_0, (.slice A0_1 l0_1.length c0_1), (.slice A0_2 l0_2.length c0_2), (.slice A0_3 l0_3.length c0_3), (.slice A0_4 l0_4.length c0_4)] 34 (0, 0))) ∧ Aside0 (Below w.heap.size w w'))
 case atStart => exact ⟨(y302), (0), z4_, H', ⟨Nat.le_refl _⟩, ⟨by (with_reducible repeat (first | apply Kd.R_alloc | apply Kd.R_drewN | apply Kd.R_drew)); exact HO304.out⟩, ⟨z48_⟩, ⟨cb_⟩⟩
 case round =>
  clear H'
  try clear c2
  try clear p2
  repeat clear hz_
  obtain ⟨x3_1, x4_1, rfl, HA, HK1, HO_3, BK298, HB⟩ := hrel
  obtain ⟨k1, rfl, H⟩ := rn_ (k := gk) HA (by rintro rfl; simp only [spec_l3Map.l0])
  clear HA
  simp only [spec_l3Map.l0] at H
  have HC8 := q_ H
  clear H
  obtain ⟨hz_, hz_, hz_, hz_, hz_, hz_, hz_, hz_, hz_, hz_⟩ := cs5_ BK298.out
  go_upto_if 13 with (fail)
  have H := HC8.out
  clear HC8
  replace H := kd_ H; rcases H with ⟨c10b0, H⟩ | ⟨c10b0, H⟩
  ·(first | rw [c10b0] | rw [c10b1] | (simp only [i64_w, i32_w]; first | rw [c10b0] | rw [c10b1]) | rw [c10b2] | skip)
   replace H := kdn_ H; obtain ⟨c11b0, H⟩ := H
   replace H := bi_ H; obtain ⟨t306, A12, H⟩ := H
   replace H := kln_ H; obtain ⟨LMc13, H⟩ := H
   obtain ⟨y309, hy_⟩ : ∃ y_ : List (S92), y_ = (x3_1 ++ t306) := ⟨_, rfl⟩
   replace H : (spec_l3Map.l0 k1 y309 (wrap64 (x4_1 + 1)) a0_0 l0_1 l0_2 l0_3 l0_4) = some r := z3_
   have Ny309 := q_ hy_
   clear hy_
   have H' := q_ H
   clear H
   obtain ⟨hz_, hz_, hz_, hz_, hz_, hz_, hz_, hz_, hz_, hz_⟩ := cs5_ BK298.out
   have p305 : 0 ≤ (x4_1 : Int) := of_decide_eq_true z1_
   have q305 : x4_1 < (l0_3.length : Int) := of_decide_eq_true z1_
   obtain ⟨ad305, A305_1, c305_1, A305_2, c305_2, A305_3, c305_3, A305_4, c305_4, e305, hx305_0, hx305_1, hx305_2, hx305_3, hx305_4, hl305_1, hi305_1, hl305_2, hi305_2, hl305_3, hi305_3, hl305_4, hi305_4⟩ := at_T34 HR0_3.out x4_1 p305 q305
   cases e305
   replace hx305_0 := up_ HB hx305_0
   replace hx305_1 := up_ HB hx305_1
   replace hx305_2 := up_ HB hx305_2
   replace hx305_3 := up_ HB hx305_3
   replace hx305_4 := up_ HB hx305_4
   have HR305_1 := q_ hi305_1
   have HC305_1 := q_ hl305_1
   clear hi305_1 hl305_1
   have HR305_2 := q_ hi305_2
   have HC305_2 := q_ hl305_2
   clear hi305_2 hl305_2
   have HR305_3 := q_ hi305_3
   have HC305_3 := q_ hl305_3
   clear hi305_3 hl305_3
   have HR305_4 := q_ hi305_4
   have HC305_4 := q_ hl305_4
   clear hi305_4 hl305_4
   replace p305 := eq_true p305
   replace q305 := eq_true q305
   go_wp2_with (first | ((with_reducible refine gate_callee (f := 83) rfl ?_); refine goesL_ (some 22) rfl rfl Try.func83 (by kernel_rfl) rfl #[.agg #[.bool ((rd_T34 l0_3 x4_1).f0), .slice A305_1 ((rd_T34 l0_3 x4_1).f1).length c305_1, .slice A305_2 ((rd_T34 l0_3 x4_1).f2).length c305_2, .slice A305_3 ((rd_T34 l0_3 x4_1).f3).length c305_3, .slice A305_4 ((rd_T34 l0_3 x4_1).f4).length c305_4]] rfl z0_ ?_; (with_reducible refine (ih k1 z25_ ((rd_T34 l0_3 x4_1).f0) _ _ ((rd_T34 l0_3 x4_1).f1) _ _ ((rd_T34 l0_3 x4_1).f2) _ _ ((rd_T34 l0_3 x4_1).f3) _ _ ((rd_T34 l0_3 x4_1).f4) t306 _ ?side1 ?side2 ?side3 ?side4 ?side5 ?side6 ?side7 ?side8 A12.out).mono ?_); (case side1 => repeat (first | exact (Kd.C_below HR305_1.out HB.out) | (with_reducible refine Kd.C_alloc ?_ _) | (with_reducible refine Kd.C_drewN ?_ _) | (with_reducible refine Kd.C_drew ?_))); (case side2 => exact HC305_1.out); (case side3 => repeat (first | exact (Kd.C_below HR305_2.out HB.out) | (with_reducible refine Kd.C_alloc ?_ _) | (with_reducible refine Kd.C_drewN ?_ _) | (with_reducible refine Kd.C_drew ?_))); (case side4 => exact HC305_2.out); (case side5 => repeat (first | exact (Kd.C_below HR305_3.out HB.out) | (with_reducible refine Kd.C_alloc ?_ _) | (with_reducible refine Kd.C_drewN ?_ _) | (with_reducible refine Kd.C_drew ?_))); (case side6 => exact HC305_3.out); (case side7 => repeat (first | exact (Kd.C_below HR305_4.out HB.out) | (with_reducible refine Kd.C_alloc ?_ _) | (with_reducible refine Kd.C_drewN ?_ _) | (with_reducible refine Kd.C_drew ?_))); (case side8 => exact HC305_4.out); rintro e w15 ⟨v307, rfl, ho0, hb⟩; refine ⟨_, rfl, ?_⟩; have HO308 := q_ (Kd.R_lower (Kd.R_new' ho0 (Kd.R_lt z8_)) (below_size cb_)); replace HO_3 := q_ (Kd.R_elder' z8_ (Kd.R_base ho0) hb); replace BK298 := rb_ BK298 hb; replace HB := hb_ hb; (try clear hb); (try clear hb2); (try clear hk); (try clear hi); (try clear ho0); obtain ⟨Ao17, co17, eo17⟩ := Kd.R_slice HO308.out; subst eo17) | ((with_reducible refine gate_builtin (b := .append) (xs := #[.tmp 16, .tmp 22]) rfl ?_); at_builtin; refine Kd.R_append_rows k92 (w0 := w) w.heap.size rfl (.tmp 16) (.tmp 22) 30 92 (.agg #[(.int .i64 0), (.int .i64 0)]) 16 rfl Try.underlying30 info92 rfl (by decide) (by omega) u3 x3_1 t306 _ _ _ (fun k_ => some k_ ≠ (.slice Ao17 t306.length co17 : Value).ownBlock) (fun _ => False) rfl rfl ?aO ?aR (fun _ _ h => h) (fun _ h => h.elim) ?aF ?aB ?aS ?aL ?_; (case aR => repeat (first | exact (Kd.R_reads' HO308.out).2.2 | (with_reducible refine Kd.C_alloc ?_ _) | (with_reducible refine Kd.C_drewN ?_ _) | (with_reducible refine Kd.C_drew ?_))); (case aB => exact cb_); (case aF => exact (fun k_ hk => Kd.fresh' (Kd.R_lt z70_) k_ hk)); (case aO => exact z66_); (case aS => exact z125_); (case aL => have := LMc13.out; omega); intro v310 w16 ho hb hg hat; rw [← Ny309.out] at ho; replace BK298 := q_ (blk_grown (g := gb298) (o := .cells #[.bool a0_0, .slice A0_1 l0_1.length c0_1, .slice A0_2 l0_2.length c0_2, .slice (some ad305) l0_3.length c0_3, .slice A0_4 l0_4.length c0_4] 34 (0, 0)) z48_ hg (Kd.R_ne HO_3.out BK298.out (by decide))); replace HO308 := q_ (Kd.R_after (ok := (fun _ => True)) z70_ hg hat); replace HB := q_ (hb); have HO311 := q_ (ho); clear HO_3; clear ho hb hg hat))
   go_roundg k1
   case measure => have := HK1.out; omega
   case rel => exact ⟨(y309), (wrap64 (x4_1 + 1)), z4_, H', ⟨z25_⟩, ⟨by (with_reducible repeat (first | apply Kd.R_alloc | apply Kd.R_drewN | apply Kd.R_drew)); exact Kd.R_mono HO311.out (fun _ hk => trivial)⟩, ⟨z48_⟩, ⟨cb_⟩⟩
  ·(first | rw [c10b0] | rw [c10b1] | (simp only [i64_w, i32_w]; first | rw [c10b0] | rw [c10b1]) | rw [c10b2] | skip)
   replace H := bi_ H; obtain ⟨t312, A18, H⟩ := H
   obtain rfl := si_ H
   obtain ⟨hz_, hz_, hz_, hz_, hz_, hz_, hz_, hz_, hz_, hz_⟩ := cs5_ BK298.out
   obtain ⟨Ao20, co20, eo20⟩ := Kd.R_slice HO_3.out
   subst eo20
   go_wp2_with (first | ((with_reducible refine gate_callee (f := 80) rfl ?_); refine goesL_ (some 27) rfl rfl Try.func80 (by kernel_rfl) rfl #[.slice Ao20 x3_1.length co20, .slice A0_4 l0_4.length c0_4] rfl z0_ ?_; (with_reducible refine (spec_MapAll.calls k1 _ _ x3_1 _ _ l0_4 t312 _ ?side1 ?side2 ?side3 ?side4 A18.out).mono ?_); (case side1 => exact z124_); (case side2 => exact (Kd.R_reads' HO_3.out).2.1); (case side3 => exact z96_); (case side4 => exact z122_); rintro e w21 ⟨v313, rfl, ho0, hb⟩; refine ⟨_, rfl, ?_⟩; have HO314 := q_ (Kd.R_lower (Kd.R_new' ho0 (Kd.R_lt z8_)) (below_size cb_)); replace HO_3 := q_ (Kd.R_elder' z8_ (Kd.R_base ho0) hb); replace HB := hb_ hb; (try clear hb); (try clear hb2); (try clear hk); (try clear hi); (try clear ho0)))
   go_ret
   exact ⟨_, z2_, by (with_reducible repeat (first | apply Kd.R_alloc | apply Kd.R_drewN | apply Kd.R_drew)); exact Kd.R_mono HO314.out (fun _ hk => trivial), cb_⟩

/-! ### spec_TreeMap: function 36 -/
def spec_TreeMap.f (k : Nat) (a0_0 : Bool) (l0_1 : List (S92)) (l0_2 : List Int) (l0_3 : List (S34)) (l0_4 : List (S72)) : Option ((List (S92))) := (spec_TreeOk.f k a0_0 l0_1 l0_2 l0_3 l0_4).bind fun t316 => (if t316 = true then ((spec_l3Map.f k a0_0 l0_1 l0_2 l0_3 l0_4).bind fun t317 => (some t317)) else (some (([] : List (S92)))))
theorem spec_TreeMap.mono : ∀ a0 a1 a2 a3 a4 k, LeO (spec_TreeMap.f k a0 a1 a2 a3 a4) (spec_TreeMap.f (k + 1) a0 a1 a2 a3 a4) := by
 intro a0 a1 a2 a3 a4 k
 unfold spec_TreeMap.f
 have m0 := @spec_TreeOk.mono
 have m1 := @spec_l3Map.mono
 exact zm_
set_option maxHeartbeats 8000000 in
set_option maxRecDepth 100000 in
theorem spec_TreeMap.calls (k : Nat) (a0_0 : Bool) (A0_1 : Option Addr) (c0_1 : Nat) (l0_1 : List (S92)) (A0_2 : Option Addr) (c0_2 : Nat) (l0_2 : List Int) (A0_3 : Option Addr) (c0_3 : Nat) (l0_3 : List (S34)) (A0_4 : Option Addr) (c0_4 : Nat) (l0_4 : List (S72)) (r : List (S92)) (w : World) (hr0_1 : Kd.C k92 w A0_1 l0_1.length l0_1) (hc0_1 : l0_1.length ≤ c0_1) (hr0_2 : Kd.C (Kd.int .i64) w A0_2 l0_2.length l0_2) (hc0_2 : l0_2.length ≤ c0_2) (hr0_3 : Kd.C k34 w A0_3 l0_3.length l0_3) (hc0_3 : l0_3.length ≤ c0_3) (hr0_4 : Kd.C k72 w A0_4 l0_4.length l0_4) (hc0_4 : l0_4.length ≤ c0_4) (h : spec_TreeMap.f k a0_0 l0_1 l0_2 l0_3 l0_4 = some r) :
  Calls Try.prog 36 #[.agg #[.bool a0_0, .slice A0_1 l0_1.length c0_1, .slice A0_2 l0_2.length c0_2, .slice A0_3 l0_3.length c0_3, .slice A0_4 l0_4.length c0_4]] w fun e w' => ∃ v0_ : Value, e = .returned (v0_) ∧ Kd.R k92 92 w' w.heap.size (fun _ => True) v0_ r ∧ Below w.heap.size w w' := by
 have hu34 := Try.underlying34
 have HR0_1 := q_ hr0_1
 have HC0_1 := q_ hc0_1
 clear hr0_1 hc0_1
 have HR0_2 := q_ hr0_2
 have HC0_2 := q_ hc0_2
 clear hr0_2 hc0_2
 have HR0_3 := q_ hr0_3
 have HC0_3 := q_ hc0_3
 clear hr0_3 hc0_3
 have HR0_4 := q_ hr0_4
 have HC0_4 := q_ hc0_4
 clear hr0_4 hc0_4
 have HB := q_ (Below.refl w.heap.size w)
 have H := h; clear h
 unfold spec_TreeMap.f at H
 replace H := bi_ H; obtain ⟨t316, A2, H⟩ := H
 have HC3 := q_ H
 clear H
 go_enter Try.func36, Try.ntmps36
 go_upto_if 5 with (first | ((with_reducible refine gate_dst (N := 1) rfl ?_); refine box_event ?hg (N := 1) ?hd (cs := #[.bool a0_0, .slice A0_1 l0_1.length c0_1, .slice A0_2 l0_2.length c0_2, .slice A0_3 l0_3.length c0_3, .slice A0_4 l0_4.length c0_4]) (t := 34) ?hr ?_; (case hd => rfl); (case hg => rfl); (case hr => exact z95_); intro gb315 hg w4 hbox hb; have BK315 := q_ (hbox); have GW315 := ge_ hg; have GE315 := ge_ hg; replace HB := hb_ hb; clear hb hbox hg; obtain ⟨hz_, hz_, hz_, hz_, hz_, hz_, hz_, hz_, hz_, hz_⟩ := cs5_ BK315.out) | ((with_reducible refine gate_callee (f := 20) rfl ?_); refine goesL_ (some 4) rfl rfl Try.func20 (by kernel_rfl) rfl #[.agg #[.bool a0_0, .slice A0_1 l0_1.length c0_1, .slice A0_2 l0_2.length c0_2, .slice A0_3 l0_3.length c0_3, .slice A0_4 l0_4.length c0_4]] rfl z0_ ?_; (with_reducible refine (spec_TreeOk.calls k a0_0 _ _ l0_1 _ _ l0_2 _ _ l0_3 _ _ l0_4 t316 _ ?side1 ?side2 ?side3 ?side4 ?side5 ?side6 ?side7 ?side8 A2.out).mono ?_); (case side1 => exact z94_); (case side2 => exact z117_); (case side3 => exact z97_); (case side4 => exact HC0_2.out); (case side5 => exact z98_); (case side6 => exact HC0_3.out); (case side7 => exact z96_); (case side8 => exact z122_); rintro e w6 ⟨rfl, hb⟩; refine ⟨_, rfl, ?_⟩; replace BK315 := rb_ BK315 hb; replace HB := hb_ hb; (try clear hb); (try clear hb2); (try clear hk); (try clear hi)))
 (try simp only [Act.put, List.setIfInBounds_toArray, List.set_cons_zero, List.set_cons_succ])
 have H := HC3.out
 clear HC3
 replace H := kb_ H; rcases H with ⟨rfl, H⟩ | ⟨rfl, H⟩
 ·replace H := bi_ H; obtain ⟨t317, A8, H⟩ := H
  obtain rfl := si_ H
  obtain ⟨hz_, hz_, hz_, hz_, hz_, hz_, hz_, hz_, hz_, hz_⟩ := cs5_ BK315.out
  go_wp2_with (first | ((with_reducible refine gate_callee (f := 83) rfl ?_); refine goesL_ (some 8) rfl rfl Try.func83 (by kernel_rfl) rfl #[.agg #[.bool a0_0, .slice A0_1 l0_1.length c0_1, .slice A0_2 l0_2.length c0_2, .slice A0_3 l0_3.length c0_3, .slice A0_4 l0_4.length c0_4]] rfl z0_ ?_; (with_reducible refine (spec_l3Map.calls k a0_0 _ _ l0_1 _ _ l0_2 _ _ l0_3 _ _ l0_4 t317 _ ?side1 ?side2 ?side3 ?side4 ?side5 ?side6 ?side7 ?side8 A8.out).mono ?_); (case side1 => exact z94_); (case side2 => exact z117_); (case side3 => exact z97_); (case side4 => exact HC0_2.out); (case side5 => exact z98_); (case side6 => exact HC0_3.out); (case side7 => exact z96_); (case side8 => exact z122_); rintro e w10 ⟨v318, rfl, ho0, hb⟩; refine ⟨_, rfl, ?_⟩; have HO319 := q_ (Kd.R_lower ho0 (below_size cb_)); replace HB := hb_ hb; (try clear hb); (try clear hb2); (try clear hk); (try clear hi); (try clear ho0)))
  go_ret
  exact ⟨_, z2_, by (with_reducible repeat (first | apply Kd.R_alloc | apply Kd.R_drewN | apply Kd.R_drew)); exact HO319.out, cb_⟩
 ·obtain ⟨y320, hy_⟩ : ∃ y_ : List (S92), y_ = (([] : List (S92))) := ⟨_, rfl⟩
  replace H : (some y320) = some r := z3_
  have Ny320 := q_ hy_
  clear hy_
  obtain rfl := si_ H
  go_wp2_with (first | ((with_reducible refine gate_dst (N := 6) rfl ?_); refine Kd.R_lit k92 _ 92 ?hg (N := 6) ?hd (xs := ([] : List (S92))) (inner := []) (ok := fun _ => True) (okp := fun _ => True) ?hr ?hp (fun _ hk => hk) trivial (Below.refl _ _) (Nat.le_refl _) (by simp) ?_; (case hd => rfl); (case hg => rfl); (case hr => exact z95_); (case hp => exact z128_); intro v321 w11 ho12 hb hg_ hnew_; clear hg_ hnew_; (first | rw [← Ny320.out] at ho12 | (simp only [Int.reduceToNat] at ho12; rw [← Ny320.out] at ho12)); have HO322 := q_ (Kd.R_lower ho12 (below_size cb_)); replace HB := hb_ hb; clear hb ho12))
  go_ret
  exact ⟨_, z2_, by (with_reducible repeat (first | apply Kd.R_alloc | apply Kd.R_drewN | apply Kd.R_drew)); exact HO322.out, cb_⟩

end Go.Proofs.Ytfnndcpaldkkoaa.PFnExactTreeRange
