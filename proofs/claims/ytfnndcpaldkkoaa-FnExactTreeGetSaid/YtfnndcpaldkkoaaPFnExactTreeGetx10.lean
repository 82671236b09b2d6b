-- Written by a program of this session, which goes by the kit's print. Not trusted: Lean checks it.
import Derived.Test.YtfnndcpaldkkoaaPFnExactTreeGetx0
import Derived.Test.YtfnndcpaldkkoaaPFnExactTreeGetx5
import Derived.Test.YtfnndcpaldkkoaaPFnExactTreeGetx6
import Derived.Test.YtfnndcpaldkkoaaPFnExactTreeGetx8
import Derived.Test.YtfnndcpaldkkoaaPFnExactTreeGetx9
namespace Go.Proofs.Ytfnndcpaldkkoaa.PFnExactTreeGet
open Go.RowKit Go.Proofs.YtfnndcpaldkkoaaW.PrintWords Go.Proofs.YtfnndcpaldkkoaaW.PrintLast Go.Proofs.YtfnndcpaldkkoaaW.PrintMore
attribute [local go_sem] max2_int min2_int max_two min_two max_three min_three max_four min_four   -- for this text's walks alone
set_option linter.unusedVariables false
set_option linter.unusedSimpArgs false

/-! ### spec_MapDo: function 112 -/
def spec_MapDo.j0 : Nat → List (S92) → Bool → Int → Int → Int → Option ((List (S92)))
 | 0, _, _, _, _, _ => none
 | k + 1, x0, x14, x273000, x273001, x273002 => if x14 = true then ((some (([] : List (S92)) : List (S92))).bind fun y275 => (if y275.length + x0.length < 8796093022208 then (some (y275 ++ x0)) else (none))) else ((spec_MapGet.f k x0 x273001).bind fun bt281 => (if x273000 = 1 then ((spec_l1Put.f k x0 x273001 x273002).bind fun t283 => (some t283)) else (if x273000 = 2 then ((spec_l1Without.f k x0 x273001).bind fun t286 => (some t286)) else (if x273000 = 3 then ((spec_l1Clamp.f (wrap64 (bt281.1 + x273002))).bind fun t289 => ((spec_l1Put.f k x0 x273001 t289).bind fun t290 => (some t290))) else ((some (([] : List (S92)) : List (S92))).bind fun y293 => (if y293.length + x0.length < 8796093022208 then (some (y293 ++ x0)) else (none)))))))
def spec_MapDo.f (k : Nat) (l0 : List (S92)) (a1_0 : Int) (a1_1 : Int) (a1_2 : Int) : Option ((List (S92))) := (spec_MapOk.f k l0).bind fun t273 => (if t273 = true then ((spec_MsgOk.f a1_0 a1_1 a1_2).bind fun t274 => (spec_MapDo.j0 k l0 (!t274) a1_0 a1_1 a1_2)) else (spec_MapDo.j0 k l0 true a1_0 a1_1 a1_2))
theorem spec_MapDo.mono_l : ∀ k, (∀ y0 y1 y2 y3 y4, LeO (spec_MapDo.j0 k y0 y1 y2 y3 y4) (spec_MapDo.j0 (k + 1) y0 y1 y2 y3 y4))
 | 0 => fun _ _ _ _ _ r h => by simp [spec_MapDo.j0] at h
 | k + 1 => by
  have ih0 := spec_MapDo.mono_l k
  ·intro y0 y1 y2 y3 y4
   unfold spec_MapDo.j0
   have m0 := @spec_MapGet.mono
   have m1 := @spec_MapOk.mono
   have m2 := @spec_l1Put.mono
   have m3 := @spec_l1Without.mono
   exact zm_
theorem spec_MapDo.mono : ∀ a0 a1 a2 a3 k, LeO (spec_MapDo.f k a0 a1 a2 a3) (spec_MapDo.f (k + 1) a0 a1 a2 a3) := by
 intro a0 a1 a2 a3 k
 have ih0 := spec_MapDo.mono_l k
 unfold spec_MapDo.f
 have m0 := @spec_MapGet.mono
 have m1 := @spec_MapOk.mono
 have m2 := @spec_l1Put.mono
 have m3 := @spec_l1Without.mono
 exact zm_
def spec_MapDo.T10 : Bool × List (List Nat × List Nat) := (true, [([], []), ([], []), ([1], [1]), ([], []), ([], []), ([4], [4]), ([3, 5], [3, 5]), ([6], [6]), ([0, 2, 7, 7], [0, 2, 7]), ([8, 8, 0, 1, 2, 3, 4, 5, 6, 7, 8], [8])])
def spec_MapDo.B10 : List Nat := [0, 0, 2, 0, 0, 16, 56, 120, 255, 511]
theorem spec_MapDo.tab10 : rtab .any (opsOf Try.f112 10) = spec_MapDo.T10 := by kernel_rfl
theorem spec_MapDo.bits10 : waitsOk spec_MapDo.T10.2 spec_MapDo.B10 = true := by kernel_rfl
set_option maxHeartbeats 8000000 in
set_option maxRecDepth 100000 in
theorem spec_MapDo.calls (k : Nat) (A0 : Option Addr) (c0 : Nat) (l0 : List (S92)) (a1_0 : Int) (a1_1 : Int) (a1_2 : Int) (r : List (S92)) (w : World) (hr0 : Kd.C k92 w A0 l0.length l0) (hc0 : l0.length ≤ c0) (h : spec_MapDo.f k l0 a1_0 a1_1 a1_2 = some r) :
  Calls Try.prog 112 #[.slice A0 l0.length c0, .agg #[.int .i64 a1_0, .int .i64 a1_1, .int .i64 a1_2]] w fun e w' => ∃ v0_ : Value, e = .returned (v0_) ∧ Kd.R k92 92 w' w.heap.size (fun _ => True) v0_ r ∧ Below w.heap.size w w' := by
 have hu72 := Try.underlying72
 have HR0 := q_ hr0
 have HC0 := q_ hc0
 clear hr0 hc0
 have HB := q_ (Below.refl w.heap.size w)
 have H := h; clear h
 unfold spec_MapDo.f at H
 have HC3 := q_ H
 clear H
 go_enter Try.func112, Try.ntmps112
 go_upto_region 1 with (first | ((with_reducible refine gate_dst (N := 3) rfl ?_); refine box_event ?hg (N := 3) ?hd (cs := #[.int .i64 a1_0, .int .i64 a1_1, .int .i64 a1_2]) (t := 72) ?hr ?_; (case hd => rfl); (case hg => rfl); (case hr => exact z104_); intro gb272 hg w4 hbox hb; have BK272 := q_ (hbox); have GW272 := ge_ hg; have GE272 := ge_ hg; replace HB := hb_ hb; clear hb hbox hg))
 (try simp only [Act.put, List.setIfInBounds_toArray, List.set_cons_zero, List.set_cons_succ])
 go_cut [14] (fun v14 wc => ∃ (kq : Nat) (x14_2 : Bool), v14 = .bool x14_2 ∧ Aside0 (spec_MapDo.j0 kq l0 x14_2 a1_0 a1_1 a1_2 = some r) ∧ Aside0 (kq ≤ k) ∧ Aside0 (wc.heap[gb272]? = some (.cells #[.int .i64 a1_0, .int .i64 a1_1, .int .i64 a1_2] 72 (0, 0))) ∧ Aside0 (Below w.heap.size w wc))
 case first =>
  have H := HC3.out
  clear HC3
  replace H := bi_ H; obtain ⟨t273, A5, H⟩ := H
  replace H := kb_ H; rcases H with ⟨rfl, H⟩ | ⟨rfl, H⟩
  ·replace H := bi_ H; obtain ⟨t274, A7, H⟩ := H
   have H' := q_ H
   clear H
   go_wp2_with (first | ((with_reducible refine gate_callee (f := 120) rfl ?_); refine goesL_ (some 8) rfl rfl Try.func120 (by kernel_rfl) rfl #[.slice A0 l0.length c0] rfl z0_ ?_; (with_reducible refine (spec_MapOk.calls k _ _ l0 true _ ?side1 ?side2 A5.out).mono ?_); (case side1 => exact z108_); (case side2 => exact HC0.out); rintro e w8 ⟨rfl, hb⟩; refine ⟨_, rfl, ?_⟩; replace BK272 := rb_ BK272 hb; replace HB := hb_ hb; (try clear hb); (try clear hb2); (try clear hk); (try clear hi); obtain ⟨hz_, hz_, hz_, hz_, hz_, hz_⟩ := cs3_ BK272.out) | (go_at_call 98; (with_reducible refine (spec_MsgOk.calls a1_0 a1_1 a1_2 t274 _ A7.out).mono ?_); rintro e w10 ⟨rfl, hb⟩; replace BK272 := rb_ BK272 hb; replace HB := hb_ hb; (try clear hb); (try clear hb2); (try clear hk); (try clear hi)))
   go_meet
   case rel => exact ⟨_, (!t274), z4_, H', ⟨z43_⟩, ⟨z73_⟩, ⟨cb_⟩⟩
  ·have H' := q_ H
   clear H
   go_wp2_with (first | ((with_reducible refine gate_callee (f := 120) rfl ?_); refine goesL_ (some 8) rfl rfl Try.func120 (by kernel_rfl) rfl #[.slice A0 l0.length c0] rfl z0_ ?_; (with_reducible refine (spec_MapOk.calls k _ _ l0 false _ ?side1 ?side2 A5.out).mono ?_); (case side1 => exact z108_); (case side2 => exact HC0.out); rintro e w11 ⟨rfl, hb⟩; refine ⟨_, rfl, ?_⟩; replace BK272 := rb_ BK272 hb; replace HB := hb_ hb; (try clear hb); (try clear hb2); (try clear hk); (try clear hi)))
   go_meet
   case rel => exact ⟨_, (true), z4_, H', ⟨z43_⟩, ⟨z73_⟩, ⟨cb_⟩⟩
 case rest =>
  clear HC3
  try clear c1
  try clear p2
  try clear c6
  try clear c11
  repeat clear hz_
  obtain ⟨kq, x14_2, rfl, HA, HJ2, BK272, HB⟩ := hcut
  obtain ⟨kj2, rfl, H⟩ := rn_ (k := kq) HA (by rintro rfl; simp only [spec_MapDo.j0])
  clear HA
  simp only [spec_MapDo.j0] at H
  replace H := kb_ H; rcases H with ⟨rfl, H⟩ | ⟨rfl, H⟩
  ·obtain ⟨y275, hy_⟩ : ∃ y_ : List (S92), y_ = (([] : List (S92))) := ⟨_, rfl⟩
   replace H : (if y275.length + l0.length < 8796093022208 then (some (y275 ++ l0)) else (none)) = some r := z3_
   have Ny275 := q_ hy_
   clear hy_
   replace H := kln_ H; obtain ⟨LMc13, H⟩ := H
   obtain ⟨y278, hy_⟩ : ∃ y_ : List (S92), y_ = (y275 ++ l0) := ⟨_, rfl⟩
   replace H : (some y278) = some r := z3_
   have Ny278 := q_ hy_
   clear hy_
   obtain rfl := si_ H
   go_wp2_with (first | ((with_reducible refine gate_dst (N := 15) rfl ?_); refine Kd.R_lit k92 _ 92 ?hg (N := 15) ?hd (xs := ([] : List (S92))) (inner := []) (ok := fun _ => True) (okp := fun _ => True) ?hr ?hp (fun _ hk => hk) trivial (Below.refl _ _) (Nat.le_refl _) (by simp) ?_; (case hd => rfl); (case hg => rfl); (case hr => exact z104_); (case hp => exact z135_); intro v276 w14 ho15 hb hg_ hnew_; clear hg_ hnew_; (first | rw [← Ny275.out] at ho15 | (simp only [Int.reduceToNat] at ho15; rw [← Ny275.out] at ho15)); have HO277 := q_ (Kd.R_lower ho15 (below_size cb_)); replace HB := hb_ hb; clear hb ho15) | ((with_reducible refine gate_builtin (b := .append) (xs := #[.tmp 15, .tmp 16]) rfl ?_); at_builtin; refine Kd.R_append_rows k92 (w0 := w) w.heap.size rfl (.tmp 15) (.tmp 16) 30 92 (.agg #[(.int .i64 0), (.int .i64 0)]) 16 rfl Try.underlying30 info92 rfl (by decide) (by omega) v276 y275 l0 _ _ _ (fun _ => True) (fun _ => False) rfl rfl ?aO ?aR (fun _ _ h => h) (fun _ h => h.elim) ?aF ?aB ?aS ?aL ?_; (case aR => exact z108_); (case aB => exact cb_); (case aF => exact z134_); (case aO => exact (by (with_reducible repeat (first | apply Kd.R_alloc | apply Kd.R_drewN | apply Kd.R_drew)); exact HO277.out)); (case aS => exact z133_); (case aL => have := LMc13.out; omega); intro v279 w16 ho hb hg hat; rw [← Ny278.out] at ho; replace HB := q_ (hb); have HO280 := q_ (ho); clear HO277; clear ho hb hg hat))
   go_ret
   exact ⟨_, z1_, by (with_reducible repeat (first | apply Kd.R_alloc | apply Kd.R_drewN | apply Kd.R_drew)); exact HO280.out, cb_⟩
  ·replace H := bi_ H; obtain ⟨⟨t281, t282⟩, A17, H⟩ := H
   (try dsimp only at H)
   have HC18 := q_ H
   clear H
   obtain ⟨hz_, hz_, hz_, hz_, hz_, hz_⟩ := cs3_ BK272.out
   go_upto_if 27 with (first | ((with_reducible refine gate_callee (f := 79) rfl ?_); refine goesL_ (some 22) rfl rfl Try.func79 (by kernel_rfl) rfl #[.slice A0 l0.length c0, .int .i64 a1_1] rfl z0_ ?_; (with_reducible refine (spec_MapGet.calls kj2 _ _ l0 a1_1 t281 t282 _ ?side1 ?side2 A17.out).mono ?_); (case side1 => exact z108_); (case side2 => exact HC0.out); rintro e w' ⟨rfl, ⟨nd, rfl⟩⟩; refine ⟨_, rfl, ?_⟩))
   (try simp only [Act.put, List.setIfInBounds_toArray, List.set_cons_zero, List.set_cons_succ])
   have H := HC18.out
   clear HC18
   replace H := ke_ H; rcases H with ⟨c20b0, c20b1, H⟩ | ⟨c20, c20b0, c20b1, H⟩
   ·(first | rw [c20b0] | rw [c20b1] | (simp only [i64_w, i32_w]; first | rw [c20b0] | rw [c20b1]) | rw [c20b2] | skip)
    replace H := bi_ H; obtain ⟨t283, A21, H⟩ := H
    obtain rfl := si_ H
    obtain ⟨hz_, hz_, hz_, hz_, hz_, hz_⟩ := cs3_ BK272.out
    go_wp2_with (first | ((with_reducible refine gate_callee (f := 129) rfl ?_); refine goesL_ (some 34) rfl rfl Try.func129 (by kernel_rfl) rfl #[.slice A0 l0.length c0, .int .i64 a1_1, .int .i64 a1_2] rfl z0_ ?_; (with_reducible refine (spec_l1Put.calls kj2 _ _ l0 a1_1 a1_2 t283 _ ?side1 ?side2 A21.out).mono ?_); (case side1 => exact z123_); (case side2 => exact HC0.out); rintro e w23 ⟨v284, rfl, ho0, hb⟩; refine ⟨_, rfl, ?_⟩; have HO285 := q_ (Kd.R_lower ho0 (below_size cb_)); replace HB := hb_ hb; (try clear hb); (try clear hb2); (try clear hk); (try clear hi); (try clear ho0)))
    go_ret
    exact ⟨_, z1_, by (with_reducible repeat (first | apply Kd.R_alloc | apply Kd.R_drewN | apply Kd.R_drew)); exact HO285.out, cb_⟩
   ·(first | rw [c20b0] | rw [c20b1] | (simp only [i64_w, i32_w]; first | rw [c20b0] | rw [c20b1]) | rw [c20b2] | skip)
    replace H := ke_ H; rcases H with ⟨c24b0, c24b1, H⟩ | ⟨c24, c24b0, c24b1, H⟩
    ·replace H := bi_ H; obtain ⟨t286, A25, H⟩ := H
     obtain rfl := si_ H
     obtain ⟨hz_, hz_, hz_, hz_, hz_, hz_⟩ := cs3_ BK272.out
     go_wp2_with (first | ((with_reducible refine gate_callee (f := 130) rfl ?_); refine goesL_ (some 40) rfl rfl Try.func130 (by kernel_rfl) rfl #[.slice A0 l0.length c0, .int .i64 a1_1] rfl z0_ ?_; (with_reducible refine (spec_l1Without.calls kj2 _ _ l0 a1_1 t286 _ ?side1 ?side2 A25.out).mono ?_); (case side1 => exact z123_); (case side2 => exact HC0.out); rintro e w27 ⟨v287, rfl, ho0, hb⟩; refine ⟨_, rfl, ?_⟩; have HO288 := q_ (Kd.R_lower ho0 (below_size cb_)); replace HB := hb_ hb; (try clear hb); (try clear hb2); (try clear hk); (try clear hi); (try clear ho0)))
     go_ret
     exact ⟨_, z1_, by (with_reducible repeat (first | apply Kd.R_alloc | apply Kd.R_drewN | apply Kd.R_drew)); exact HO288.out, cb_⟩
    ·replace H := ke_ H; rcases H with ⟨c28b0, c28b1, H⟩ | ⟨c28, c28b0, c28b1, H⟩
     ·replace H := bi_ H; obtain ⟨t289, A29, H⟩ := H
      replace H := bi_ H; obtain ⟨t290, A30, H⟩ := H
      obtain rfl := si_ H
      try go_wp2
      (try (rw [drewN_self wc]; generalize hq_ : World.drewN wc _ = wc; have n0_ : Aside0 (wc.heap[gb272]? = some (.cells #[.int .i64 a1_0, .int .i64 a1_1, .int .i64 a1_2] 72 (0, 0))) := ⟨by rw [← hq_]; exact z73_⟩; have n1_ : Aside0 (Below w.heap.size w wc) := ⟨by rw [← hq_]; exact cb_⟩; clear BK272 HB hq_; have BK272 := n0_; have HB := n1_; clear n0_ n1_)); obtain ⟨hcq272_0, hcq272_1, hcq272_2, hfq272_0, hfq272_1, hfq272_2⟩ := cs3_ BK272.out
      replace BK272 := q_ (blk_drew BK272.out)
      replace HB := q_ (below_drew1 HB.out)
      refine start_ (n := 10) (S := fun w' => w'.cell? ⟨gb272, 0, none⟩ = some (.int .i64 a1_0) ∧ w'.cell? ⟨gb272, 1, none⟩ = some (.int .i64 a1_1) ∧ w'.cell? ⟨gb272, 2, none⟩ = some (.int .i64 a1_2)) (ds := []) (tf 0 10) (by kernel_rfl) rfl rfl ⟨(blk_cell BK272.out 0).trans rfl, (blk_cell BK272.out 1).trans rfl, (blk_cell BK272.out 2).trans rfl⟩ (fun hHeld => ?_); refine with_tabW spec_MapDo.tab10 spec_MapDo.bits10 (fun HT_ HW_ => ?_)
      generalize wc.drew = w31 at BK272 HB hHeld ⊢
      refine p1_ 0 (some 43) (tf 1 9) HT_.out ?_
      refine p1_ 1 (some 44) (tf 2 8) HT_.out ?_
      refine p1_ 3 (some 46) #[true, true, false, true, false, false, false, false, false, false] HT_.out ?_
      refine p1_ 4 (some 47) #[true, true, false, true, true, false, false, false, false, false] HT_.out ?_
      refine take_ (i := 2) (N := some 45) (v := ?_) (a' := ?_) (tf 5 5) rfl rfl (take_ofW HT_.out HW_.out (by kernel_rfl)) (fun _ _ _ h => h) (Or.inl ⟨by rfl, ?_⟩) hHeld ?_ ?_
      rotate_left
      ·rintro w' ⟨s0, s1, s2⟩
       go_simp
       with_reducible rfl
      rotate_left
      ·simp only [Act.put, List.setIfInBounds_toArray, List.set_cons_zero, List.set_cons_succ, i64_w, i32_w]
       rfl
      refine take_ (i := 5) (N := some 48) (v := ?_) (a' := ?_) (tf 6 4) rfl rfl (take_ofW HT_.out HW_.out (by kernel_rfl)) (fun _ _ _ h => h) (Or.inl ⟨by rfl, ?_⟩) hHeld ?_ ?_
      rotate_left
      ·rintro w' ⟨s0, s1, s2⟩
       go_simp
       with_reducible rfl
      rotate_left
      ·simp only [Act.put, List.setIfInBounds_toArray, List.set_cons_zero, List.set_cons_succ, i64_w, i32_w]
       rfl
      refine p1_ 6 (some 49) (tf 7 3) HT_.out ?_
      refine one_ (i := 7) (N := some 50) (tf 8 2) rfl rfl (one_of HT_.out (by kernel_rfl)) (by decide) (fun K hK => ?_)
      refine goes_ Try.func131 (by kernel_rfl) rfl #[.int .i64 (wrap64 (t281 + a1_2))] (by rfl) rfl rfl z0_ ?_
      with_reducible refine (spec_l1Clamp.calls (wrap64 (t281 + a1_2)) t289 _ A29.out).mono ?_
      rintro e w' ⟨rfl, ⟨nd, rfl⟩⟩
      refine ⟨_, rfl, ?_⟩
      refine hK.out _ _ ⟨(blk_cell BK272.out 0).trans rfl, (blk_cell BK272.out 1).trans rfl, (blk_cell BK272.out 2).trans rfl⟩ (fun hHeld => ?_)
      clear hK K
      refine norm_ (a' := ?_) ?_ ?_
      rotate_left
      ·show Act.put _ (some 50) _ = _
       simp only [Act.put, List.setIfInBounds_toArray, List.set_cons_zero, List.set_cons_succ, i64_w, i32_w]
       rfl
      refine one_ (i := 8) (N := some 51) (tf 9 1) rfl rfl (one_of HT_.out (by kernel_rfl)) (by decide) (fun K hK => ?_)
      refine goes_ Try.func129 (by kernel_rfl) rfl #[.slice A0 l0.length c0, .int .i64 a1_1, .int .i64 t289] (by rfl) rfl rfl z0_ ?_
      with_reducible refine (spec_l1Put.calls kj2 _ _ l0 a1_1 t289 t290 _ ?side1 ?side2 A30.out).mono ?_
      (case side1 => exact z123_)
      (case side2 => exact HC0.out)
      rintro e w32 ⟨v291, rfl, ho0, hb⟩
      refine ⟨_, rfl, ?_⟩
      have HO292 := q_ (Kd.R_lower ho0 (below_size cb_))
      replace BK272 := rb_ BK272 hb
      replace HB := hb_ hb
      (try clear hb)
      (try clear hb2)
      (try clear hk)
      (try clear hi)
      (try clear ho0)
      refine hK.out _ _ ⟨(blk_cell BK272.out 0).trans rfl, (blk_cell BK272.out 1).trans rfl, (blk_cell BK272.out 2).trans rfl⟩ (fun hHeld => ?_)
      clear hK K
      refine norm_ (a' := ?_) ?_ ?_
      rotate_left
      ·show Act.put _ (some 51) _ = _
       simp only [Act.put, List.setIfInBounds_toArray, List.set_cons_zero, List.set_cons_succ, i64_w, i32_w]
       rfl
      refine p1_ 9 (some 4) (tf 10 0) HT_.out ?_
      refine done_ (done_of HT_.out (by kernel_rfl)) ?_
      try go_wp2
      go_ret
      exact ⟨_, z1_, by (with_reducible repeat (first | apply Kd.R_alloc | apply Kd.R_drewN | apply Kd.R_drew)); exact HO292.out, cb_⟩
     ·obtain ⟨y293, hy_⟩ : ∃ y_ : List (S92), y_ = (([] : List (S92))) := ⟨_, rfl⟩
      replace H : (if y293.length + l0.length < 8796093022208 then (some (y293 ++ l0)) else (none)) = some r := z3_
      have Ny293 := q_ hy_
      clear hy_
      replace H := kln_ H; obtain ⟨LMc33, H⟩ := H
      obtain ⟨y296, hy_⟩ : ∃ y_ : List (S92), y_ = (y293 ++ l0) := ⟨_, rfl⟩
      replace H : (some y296) = some r := z3_
      have Ny296 := q_ hy_
      clear hy_
      obtain rfl := si_ H
      go_wp2_with (first | ((with_reducible refine gate_dst (N := 52) rfl ?_); refine Kd.R_lit k92 _ 92 ?hg (N := 52) ?hd (xs := ([] : List (S92))) (inner := []) (ok := fun _ => True) (okp := fun _ => True) ?hr ?hp (fun _ hk => hk) trivial (Below.refl _ _) (Nat.le_refl _) (by simp) ?_; (case hd => rfl); (case hg => rfl); (case hr => exact z104_); (case hp => exact z135_); intro v294 w34 ho35 hb hg_ hnew_; clear hg_ hnew_; (first | rw [← Ny293.out] at ho35 | (simp only [Int.reduceToNat] at ho35; rw [← Ny293.out] at ho35)); have HO295 := q_ (Kd.R_lower ho35 (below_size cb_)); replace HB := hb_ hb; clear hb ho35) | ((with_reducible refine gate_builtin (b := .append) (xs := #[.tmp 52, .tmp 53]) rfl ?_); at_builtin; refine Kd.R_append_rows k92 (w0 := w) w.heap.size rfl (.tmp 52) (.tmp 53) 30 92 (.agg #[(.int .i64 0), (.int .i64 0)]) 16 rfl Try.underlying30 info92 rfl (by decide) (by omega) v294 y293 l0 _ _ _ (fun _ => True) (fun _ => False) rfl rfl ?aO ?aR (fun _ _ h => h) (fun _ h => h.elim) ?aF ?aB ?aS ?aL ?_; (case aR => exact z108_); (case aB => exact cb_); (case aF => exact z134_); (case aO => exact (by (with_reducible repeat (first | apply Kd.R_alloc | apply Kd.R_drewN | apply Kd.R_drew)); exact HO295.out)); (case aS => exact z133_); (case aL => have := LMc33.out; omega); intro v297 w36 ho hb hg hat; rw [← Ny296.out] at ho; replace HB := q_ (hb); have HO298 := q_ (ho); clear HO295; clear ho hb hg hat))
      go_ret
      exact ⟨_, z1_, by (with_reducible repeat (first | apply Kd.R_alloc | apply Kd.R_drewN | apply Kd.R_drew)); exact HO298.out, cb_⟩

/-! ### spec_MapAll: function 80 -/
def spec_MapAll.l0 : Nat → List (S72) → List (S92) → Int → Option ((List (S92)))
 | 0, _, _, _ => none
 | k + 1, x1, x5, x6 => if x6 < (x1.length : Int) then (if 0 ≤ x6 then ((spec_MapDo.f k x5 ((rd_T72 x1 x6).f0) ((rd_T72 x1 x6).f1) ((rd_T72 x1 x6).f2)).bind fun t306 => (spec_MapAll.l0 k x1 t306 (wrap64 (x6 + 1)))) else (none)) else (some x5)
def spec_MapAll.f (k : Nat) (l0 : List (S92)) (l1 : List (S72)) : Option ((List (S92))) := (some (([] : List (S92)) : List (S92))).bind fun y299 => (if y299.length + l0.length < 8796093022208 then (spec_MapAll.l0 k l1 (y299 ++ l0) 0) else (none))
theorem spec_MapAll.mono_l : ∀ k, (∀ y0 y1 y2, LeO (spec_MapAll.l0 k y0 y1 y2) (spec_MapAll.l0 (k + 1) y0 y1 y2))
 | 0 => fun _ _ _ r h => by simp [spec_MapAll.l0] at h
 | k + 1 => by
  have ih0 := spec_MapAll.mono_l k
  ·intro y0 y1 y2
   unfold spec_MapAll.l0
   have m0 := @spec_MapDo.mono
   exact zm_
theorem spec_MapAll.mono : ∀ a0 a1 k, LeO (spec_MapAll.f k a0 a1) (spec_MapAll.f (k + 1) a0 a1) := by
 intro a0 a1 k
 have ih0 := spec_MapAll.mono_l k
 unfold spec_MapAll.f
 have m0 := @spec_MapDo.mono
 exact zm_
set_option maxHeartbeats 8000000 in
set_option maxRecDepth 100000 in
theorem spec_MapAll.calls (k : Nat) (A0 : Option Addr) (c0 : Nat) (l0 : List (S92)) (A1 : Option Addr) (c1 : Nat) (l1 : List (S72)) (r : List (S92)) (w : World) (hr0 : Kd.C k92 w A0 l0.length l0) (hc0 : l0.length ≤ c0) (hr1 : Kd.C k72 w A1 l1.length l1) (hc1 : l1.length ≤ c1) (h : spec_MapAll.f k l0 l1 = some r) :
  Calls Try.prog 80 #[.slice A0 l0.length c0, .slice A1 l1.length c1] w fun e w' => ∃ v0_ : Value, e = .returned (v0_) ∧ Kd.R k92 92 w' w.heap.size (fun _ => True) v0_ r ∧ Below w.heap.size w w' := by
 have hu72 := Try.underlying72
 have HR0 := q_ hr0
 have HC0 := q_ hc0
 clear hr0 hc0
 have HR1 := q_ hr1
 have HC1 := q_ hc1
 clear hr1 hc1
 have HB := q_ (Below.refl w.heap.size w)
 have H := h; clear h
 unfold spec_MapAll.f at H
 obtain ⟨y299, hy_⟩ : ∃ y_ : List (S92), y_ = (([] : List (S92))) := ⟨_, rfl⟩
 replace H : (if y299.length + l0.length < 8796093022208 then (spec_MapAll.l0 k l1 (y299 ++ l0) 0) else (none)) = some r := z3_
 have Ny299 := q_ hy_
 clear hy_
 replace H := kln_ H; obtain ⟨LMc3, H⟩ := H
 obtain ⟨y302, hy_⟩ : ∃ y_ : List (S92), y_ = (y299 ++ l0) := ⟨_, rfl⟩
 replace H : (spec_MapAll.l0 k l1 y302 0) = some r := z3_
 have Ny302 := q_ hy_
 clear hy_
 have H' := q_ H
 clear H
 go_enter Try.func80, Try.ntmps80
 go_wp2_with (first | ((with_reducible refine gate_dst (N := 7) rfl ?_); refine Kd.R_lit k92 _ 92 ?hg (N := 7) ?hd (xs := ([] : List (S92))) (inner := []) (ok := fun _ => True) (okp := fun _ => True) ?hr ?hp (fun _ hk => hk) trivial (Below.refl _ _) (Nat.le_refl _) (by simp) ?_; (case hd => rfl); (case hg => rfl); (case hr => exact z104_); (case hp => exact z135_); intro v300 w4 ho5 hb hg_ hnew_; clear hg_ hnew_; (first | rw [← Ny299.out] at ho5 | (simp only [Int.reduceToNat] at ho5; rw [← Ny299.out] at ho5)); have HO301 := q_ (Kd.R_lower ho5 (below_size cb_)); replace HB := hb_ hb; clear hb ho5) | ((with_reducible refine gate_builtin (b := .append) (xs := #[.tmp 7, .tmp 8]) rfl ?_); at_builtin; refine Kd.R_append_rows k92 (w0 := w) w.heap.size rfl (.tmp 7) (.tmp 8) 30 92 (.agg #[(.int .i64 0), (.int .i64 0)]) 16 rfl Try.underlying30 info92 rfl (by decide) (by omega) v300 y299 l0 _ _ _ (fun _ => True) (fun _ => False) rfl rfl ?aO ?aR (fun _ _ h => h) (fun _ h => h.elim) ?aF ?aB ?aS ?aL ?_; (case aR => exact z108_); (case aB => exact cb_); (case aF => exact z134_); (case aO => exact (by (with_reducible repeat (first | apply Kd.R_alloc | apply Kd.R_drewN | apply Kd.R_drew)); exact HO301.out)); (case aS => exact z133_); (case aL => have := LMc3.out; omega); intro v303 w6 ho hb hg hat; rw [← Ny302.out] at ho; replace HB := q_ (hb); have HO304 := q_ (ho); clear HO301; clear ho hb hg hat))
 go_loopg [5, 6] k (fun kq v5 v6 w' => ∃ (x5_1 : List (S92)) (x6_1 : Int), v6 = .int .i64 x6_1 ∧ Aside0 (spec_MapAll.l0 kq l1 x5_1 x6_1 = some r) ∧ Aside0 (kq ≤ k) ∧ Aside0 (Kd.R k92 92 w' w.heap.size (fun _ => True) v5 x5_1) ∧ Aside0 (Below w.heap.size w w'))
 case atStart => exact ⟨(y302), (0), z4_, H', ⟨Nat.le_refl _⟩, ⟨by (with_reducible repeat (first | apply Kd.R_alloc | apply Kd.R_drewN | apply Kd.R_drew)); exact HO304.out⟩, ⟨cb_⟩⟩
 case round =>
  clear H'
  try clear c1
  try clear p2
  try clear c3
  obtain ⟨x5_1, x6_1, rfl, HA, HK1, HO_5, HB⟩ := hrel
  obtain ⟨k1, rfl, H⟩ := rn_ (k := gk) HA (by rintro rfl; simp only [spec_MapAll.l0])
  clear HA
  simp only [spec_MapAll.l0] at H
  replace H := kd_ H; rcases H with ⟨c7b0, H⟩ | ⟨c7b0, H⟩
  ·replace H := kdn_ H; obtain ⟨c8b0, H⟩ := H
   replace H := bi_ H; obtain ⟨t306, A9, H⟩ := H
   have H' := q_ H
   clear H
   have p305 : 0 ≤ (x6_1 : Int) := of_decide_eq_true z2_
   have q305 : x6_1 < (l1.length : Int) := of_decide_eq_true z2_
   obtain ⟨ad305, e305, hx305_0, hx305_1, hx305_2⟩ := at_T72 HR1.out x6_1 p305 q305
   cases e305
   replace hx305_0 := up_ HB hx305_0
   replace hx305_1 := up_ HB hx305_1
   replace hx305_2 := up_ HB hx305_2
   replace p305 := eq_true p305
   replace q305 := eq_true q305
   obtain ⟨Ao10, co10, eo10⟩ := Kd.R_slice HO_5.out
   subst eo10
   go_wp2_with (first | ((with_reducible refine gate_callee (f := 112) rfl ?_); refine goesL_ (some 21) rfl rfl Try.func112 (by kernel_rfl) rfl #[.slice Ao10 x5_1.length co10, .agg #[.int .i64 ((rd_T72 l1 x6_1).f0), .int .i64 ((rd_T72 l1 x6_1).f1), .int .i64 ((rd_T72 l1 x6_1).f2)]] rfl z0_ ?_; (with_reducible refine (spec_MapDo.calls k1 _ _ x5_1 ((rd_T72 l1 x6_1).f0) ((rd_T72 l1 x6_1).f1) ((rd_T72 l1 x6_1).f2) t306 _ ?side1 ?side2 A9.out).mono ?_); (case side1 => repeat (first | exact (Kd.R_reads' HO_5.out).2.2 | (with_reducible refine Kd.C_alloc ?_ _) | (with_reducible refine Kd.C_drewN ?_ _) | (with_reducible refine Kd.C_drew ?_))); (case side2 => exact (Kd.R_reads' HO_5.out).2.1); rintro e w11 ⟨v307, rfl, ho0, hb⟩; refine ⟨_, rfl, ?_⟩; have HO308 := q_ (Kd.R_lower (Kd.R_new' ho0 (Kd.R_lt z12_)) (below_size cb_)); replace HO_5 := q_ (Kd.R_elder' z12_ (Kd.R_base ho0) hb); replace HB := hb_ hb; (try clear hb); (try clear hb2); (try clear hk); (try clear hi); (try clear ho0)))
   go_roundg k1
   case measure => have := HK1.out; omega
   case rel => exact ⟨(t306), (wrap64 (x6_1 + 1)), z4_, H', ⟨z29_⟩, ⟨by (with_reducible repeat (first | apply Kd.R_alloc | apply Kd.R_drewN | apply Kd.R_drew)); exact Kd.R_mono HO308.out (fun _ hk => trivial)⟩, ⟨cb_⟩⟩
  ·obtain rfl := si_ H
   go_wp2
   go_ret
   exact ⟨_, z1_, z12_, cb_⟩

end Go.Proofs.Ytfnndcpaldkkoaa.PFnExactTreeGet
