-- Written by a program of this session, which goes by the kit's print. Not trusted: Lean checks it.
import Derived.Test.YtfnndcpaldkkoaaPFnExactTreeRangex0
import Derived.Test.YtfnndcpaldkkoaaPFnExactTreeRangex12
import Derived.Test.YtfnndcpaldkkoaaPFnExactTreeRangex13
namespace Go.Proofs.Ytfnndcpaldkkoaa.PFnExactTreeRange
open Go.RowKit Go.Proofs.YtfnndcpaldkkoaaW.PrintWords Go.Proofs.YtfnndcpaldkkoaaW.PrintLast Go.Proofs.YtfnndcpaldkkoaaW.PrintMore
attribute [local go_sem] Instr.field asAgg max2_int min2_int max_two min_two max_three min_three max_four min_four   -- for this text's walks alone
set_option linter.unusedVariables false
set_option linter.unusedSimpArgs false

/-! ### impl_depthOf: function 64 -/
mutual
def impl_depthOf.j0 : Nat → Int → Bool → Bool → List (S92) → List Int → List (S34) → List (S72) → Int → Int → Option (Int)
 | 0, _, _, _, _, _, _, _, _, _ => none
 | k + 1, x3, x50, x363000, x363001, x363002, x363003, x363004, x364000, x365000 => if x50 = true then (some 0) else ((slices_ContainsFunc_Msg_104.f k x363004 x364000 x365000).bind fun t367 => (if t367 = true then (some 0) else (impl_depthOf.l0 k x3 0 x364000 x363003 (x363003.length : Int) 0 x363000 x363001 x363002 x363003 x363004 x365000)))
def impl_depthOf.l0 : Nat → Int → Int → Int → List (S34) → Int → Int → Bool → List (S92) → List Int → List (S34) → List (S72) → Int → Option (Int)
 | 0, _, _, _, _, _, _, _, _, _, _, _, _ => none
 | k + 1, x3, x9, x10, x57, x58, x59, x363000, x363001, x363002, x363003, x363004, x365000 => if x59 < x58 then (if 0 ≤ x59 then (if x59 < (x57.length : Int) then (if x59 < (x363002.length : Int) then (impl_depthOf.j2 k x3 x9 x10 x59 (rd x363002 x59) x57 x58 x59 x363000 x363001 x363002 x363003 x363004 x365000 ((rd_T34 x57 x59).f0) ((rd_T34 x57 x59).f1) ((rd_T34 x57 x59).f2) ((rd_T34 x57 x59).f3) ((rd_T34 x57 x59).f4)) else (impl_depthOf.j2 k x3 x9 x10 x59 x365000 x57 x58 x59 x363000 x363001 x363002 x363003 x363004 x365000 ((rd_T34 x57 x59).f0) ((rd_T34 x57 x59).f1) ((rd_T34 x57 x59).f2) ((rd_T34 x57 x59).f3) ((rd_T34 x57 x59).f4))) else (none)) else (none)) else (some (wrap64 (x9 + 1)))
def impl_depthOf.j2 : Nat → Int → Int → Int → Int → Int → List (S34) → Int → Int → Bool → List (S92) → List Int → List (S34) → List (S72) → Int → Bool → List (S92) → List Int → List (S34) → List (S72) → Option (Int)
 | 0, _, _, _, _, _, _, _, _, _, _, _, _, _, _, _, _, _, _, _ => none
 | k + 1, x3, x9, x10, x11, x13, x57, x58, x59, x363000, x363001, x363002, x363003, x363004, x365000, x370000, x370001, x370002, x370003, x370004 => if x11 < (x363002.length : Int) then ((impl_within.f x13 1 999).bind fun t371 => (if t371 = true then (if x13 ≤ x10 then (impl_depthOf.j3 k x3 x9 x10 x11 x13 x57 x58 x59 true x363000 x363001 x363002 x363003 x363004 x365000 x370000 x370001 x370002 x370003 x370004) else (impl_depthOf.j3 k x3 x9 x10 x11 x13 x57 x58 x59 (decide (x13 ≥ x365000)) x363000 x363001 x363002 x363003 x363004 x365000 x370000 x370001 x370002 x370003 x370004)) else (impl_depthOf.j3 k x3 x9 x10 x11 x13 x57 x58 x59 true x363000 x363001 x363002 x363003 x363004 x365000 x370000 x370001 x370002 x370003 x370004))) else (impl_depthOf.j3 k x3 x9 x10 x11 x13 x57 x58 x59 false x363000 x363001 x363002 x363003 x363004 x365000 x370000 x370001 x370002 x370003 x370004)
def impl_depthOf.j3 : Nat → Int → Int → Int → Int → Int → List (S34) → Int → Int → Bool → Bool → List (S92) → List Int → List (S34) → List (S72) → Int → Bool → List (S92) → List Int → List (S34) → List (S72) → Option (Int)
 | 0, _, _, _, _, _, _, _, _, _, _, _, _, _, _, _, _, _, _, _, _ => none
 | k + 1, x3, x9, x10, x11, x13, x57, x58, x59, x94, x363000, x363001, x363002, x363003, x363004, x365000, x370000, x370001, x370002, x370003, x370004 => if x94 = true then (some 0) else ((impl_depthOf.f k x370000 x370001 x370002 x370003 x370004 x10 x13 (wrap64 (x3 - 1))).bind fun t372 => (if t372 = 0 then (some 0) else (if x11 > 0 then (if t372 = x9 then (impl_depthOf.l0 k x3 t372 x13 x57 x58 (wrap64 (x59 + 1)) x363000 x363001 x363002 x363003 x363004 x365000) else (some 0)) else (impl_depthOf.l0 k x3 t372 x13 x57 x58 (wrap64 (x59 + 1)) x363000 x363001 x363002 x363003 x363004 x365000))))
def impl_depthOf.f : Nat → Bool → List (S92) → List Int → List (S34) → List (S72) → Int → Int → Int → Option (Int)
 | 0, _, _, _, _, _, _, _, _ => none
 | k + 1, a0_0, l0_1, l0_2, l0_3, l0_4, a1, a2, a3 => if a3 = 0 then (some 0) else (if a0_0 = true then ((impl_leafOk.f k a0_0 l0_1 l0_2 l0_3 l0_4 a1 a2).bind fun t365 => (if t365 = true then (some 1) else (some 0))) else ((impl_within.f (l0_3.length : Int) 2 4).bind fun t366 => (if t366 = true then (if (l0_2.length : Int) = (wrap64 ((l0_3.length : Int) - 1)) then (if (l0_4.length : Int) > 6 then (impl_depthOf.j0 k a3 true a0_0 l0_1 l0_2 l0_3 l0_4 a1 a2) else (impl_depthOf.j0 k a3 (decide ((l0_1.length : Int) > 0)) a0_0 l0_1 l0_2 l0_3 l0_4 a1 a2)) else (impl_depthOf.j0 k a3 true a0_0 l0_1 l0_2 l0_3 l0_4 a1 a2)) else (impl_depthOf.j0 k a3 true a0_0 l0_1 l0_2 l0_3 l0_4 a1 a2))))
end
theorem impl_depthOf.mono_l : ∀ k, (∀ y0 y1 y2 y3 y4 y5 y6 y7, LeO (impl_depthOf.f k y0 y1 y2 y3 y4 y5 y6 y7) (impl_depthOf.f (k + 1) y0 y1 y2 y3 y4 y5 y6 y7)) ∧ (∀ y0 y1 y2 y3 y4 y5 y6 y7 y8, LeO (impl_depthOf.j0 k y0 y1 y2 y3 y4 y5 y6 y7 y8) (impl_depthOf.j0 (k + 1) y0 y1 y2 y3 y4 y5 y6 y7 y8)) ∧ (∀ y0 y1 y2 y3 y4 y5 y6 y7 y8 y9 y10 y11, LeO (impl_depthOf.l0 k y0 y1 y2 y3 y4 y5 y6 y7 y8 y9 y10 y11) (impl_depthOf.l0 (k + 1) y0 y1 y2 y3 y4 y5 y6 y7 y8 y9 y10 y11)) ∧ (∀ y0 y1 y2 y3 y4 y5 y6 y7 y8 y9 y10 y11 y12 y13 y14 y15 y16 y17 y18, LeO (impl_depthOf.j2 k y0 y1 y2 y3 y4 y5 y6 y7 y8 y9 y10 y11 y12 y13 y14 y15 y16 y17 y18) (impl_depthOf.j2 (k + 1) y0 y1 y2 y3 y4 y5 y6 y7 y8 y9 y10 y11 y12 y13 y14 y15 y16 y17 y18)) ∧ (∀ y0 y1 y2 y3 y4 y5 y6 y7 y8 y9 y10 y11 y12 y13 y14 y15 y16 y17 y18 y19, LeO (impl_depthOf.j3 k y0 y1 y2 y3 y4 y5 y6 y7 y8 y9 y10 y11 y12 y13 y14 y15 y16 y17 y18 y19) (impl_depthOf.j3 (k + 1) y0 y1 y2 y3 y4 y5 y6 y7 y8 y9 y10 y11 y12 y13 y14 y15 y16 y17 y18 y19))
 | 0 => ⟨fun _ _ _ _ _ _ _ _ r h => by simp [impl_depthOf.f] at h, fun _ _ _ _ _ _ _ _ _ r h => by simp [impl_depthOf.j0] at h, fun _ _ _ _ _ _ _ _ _ _ _ _ r h => by simp [impl_depthOf.l0] at h, fun _ _ _ _ _ _ _ _ _ _ _ _ _ _ _ _ _ _ _ r h => by simp [impl_depthOf.j2] at h, fun _ _ _ _ _ _ _ _ _ _ _ _ _ _ _ _ _ _ _ _ r h => by simp [impl_depthOf.j3] at h⟩
 | k + 1 => by
  obtain ⟨ih0, ih1, ih2, ih3, ih4⟩ := impl_depthOf.mono_l k
  refine ⟨?_, ?_, ?_, ?_, ?_⟩
  ·intro y0 y1 y2 y3 y4 y5 y6 y7
   unfold impl_depthOf.f
   have m0 := @impl_leafOk.mono
   have m1 := @slices_ContainsFunc_Msg_104.mono
   exact zm_
  ·intro y0 y1 y2 y3 y4 y5 y6 y7 y8
   unfold impl_depthOf.j0
   have m0 := @impl_leafOk.mono
   have m1 := @slices_ContainsFunc_Msg_104.mono
   exact zm_
  ·intro y0 y1 y2 y3 y4 y5 y6 y7 y8 y9 y10 y11
   unfold impl_depthOf.l0
   have m0 := @impl_leafOk.mono
   have m1 := @slices_ContainsFunc_Msg_104.mono
   exact zm_
  ·intro y0 y1 y2 y3 y4 y5 y6 y7 y8 y9 y10 y11 y12 y13 y14 y15 y16 y17 y18
   unfold impl_depthOf.j2
   have m0 := @impl_leafOk.mono
   have m1 := @slices_ContainsFunc_Msg_104.mono
   exact zm_
  ·intro y0 y1 y2 y3 y4 y5 y6 y7 y8 y9 y10 y11 y12 y13 y14 y15 y16 y17 y18 y19
   unfold impl_depthOf.j3
   have m0 := @impl_leafOk.mono
   have m1 := @slices_ContainsFunc_Msg_104.mono
   exact zm_
theorem impl_depthOf.mono : ∀ a0 a1 a2 a3 a4 a5 a6 a7 k, LeO (impl_depthOf.f k a0 a1 a2 a3 a4 a5 a6 a7) (impl_depthOf.f (k + 1) a0 a1 a2 a3 a4 a5 a6 a7) := by
 intro a0 a1 a2 a3 a4 a5 a6 a7 k
 obtain ⟨ih0, ih1, ih2, ih3, ih4⟩ := impl_depthOf.mono_l k
 exact ih0 a0 a1 a2 a3 a4 a5 a6 a7
set_option maxHeartbeats 8000000 in
set_option maxRecDepth 100000 in
theorem impl_depthOf.calls (k : Nat) : ∀ (a0_0 : Bool) (A0_1 : Option Addr) (c0_1 : Nat) (l0_1 : List (S92)) (A0_2 : Option Addr) (c0_2 : Nat) (l0_2 : List Int) (A0_3 : Option Addr) (c0_3 : Nat) (l0_3 : List (S34)) (A0_4 : Option Addr) (c0_4 : Nat) (l0_4 : List (S72)) (a1 : Int) (a2 : Int) (a3 : Int) (r : Int) (w : World) (hr0_1 : Kd.C k92 w A0_1 l0_1.length l0_1) (hc0_1 : l0_1.length ≤ c0_1) (hr0_2 : Kd.C (Kd.int .i64) w A0_2 l0_2.length l0_2) (hc0_2 : l0_2.length ≤ c0_2) (hr0_3 : Kd.C k34 w A0_3 l0_3.length l0_3) (hc0_3 : l0_3.length ≤ c0_3) (hr0_4 : Kd.C k72 w A0_4 l0_4.length l0_4) (hc0_4 : l0_4.length ≤ c0_4) (h : impl_depthOf.f k a0_0 l0_1 l0_2 l0_3 l0_4 a1 a2 a3 = some r),
  Calls Try.prog 64 #[.agg #[.bool a0_0, .slice A0_1 l0_1.length c0_1, .slice A0_2 l0_2.length c0_2, .slice A0_3 l0_3.length c0_3, .slice A0_4 l0_4.length c0_4], .int .i64 a1, .int .i64 a2, .int .i64 a3] w fun e w' => e = .returned (.int .i64 r) ∧ Below w.heap.size w w' := by
 induction k using Nat.strongRecOn with
 | _ k ih =>
 intro a0_0 A0_1 c0_1 l0_1 A0_2 c0_2 l0_2 A0_3 c0_3 l0_3 A0_4 c0_4 l0_4 a1 a2 a3 r w hr0_1 hc0_1 hr0_2 hc0_2 hr0_3 hc0_3 hr0_4 hc0_4 h
 cases k with
 | zero => exact absurd h (by simp [impl_depthOf.f])
 | succ k =>
 simp only [impl_depthOf.f] at h
 have hu34 := Try.underlying34
 have HR0_1 := q_ hr0_1
 have HC0_1 := q_ hc0_1
 clear hr0_1 hc0_1
 have HR0_2 := q_ hr0_2
 have HC0_2 := q_ hc0_2
 clear hr0_2 hc0_2
 have HR0_3 := q_ hr0_3
 have HC0_3 := q_ hc0_3
 clear hr0_3 hc0_3
 have HR0_4 := q_ hr0_4
 have HC0_4 := q_ hc0_4
 clear hr0_4 hc0_4
 have HB := q_ (Below.refl w.heap.size w)
 have H := h; clear h
 have HC5 := q_ H
 clear H
 go_enter Try.func64, Try.ntmps64
 go_upto_if 16 with (first | ((with_reducible refine gate_dst (N := 4) rfl ?_); (try (refine gate_guard (by rfl) ?_; dsimp only)); refine box_event ?hg (N := 4) ?hd (cs := #[.bool a0_0, .slice A0_1 l0_1.length c0_1, .slice A0_2 l0_2.length c0_2, .slice A0_3 l0_3.length c0_3, .slice A0_4 l0_4.length c0_4]) (t := 34) ?hr ?_; (case hd => rfl); (case hg => rfl); (case hr => exact z95_); intro gb362 hg w6 hbox hb; have BK362 := q_ (hbox); have GW362 := ge_ hg; have GE362 := ge_ hg; replace HB := hb_ hb; clear hb hbox hg) | ((with_reducible refine gate_dst (N := 5) rfl ?_); (try (refine gate_guard (by rfl) ?_; dsimp only)); refine box_event ?hg (N := 5) ?hd (cs := #[.int .i64 a1]) (t := 3) ?hr ?_; (case hd => rfl); (case hg => rfl); (case hr => exact z95_); intro gb363 hg w7 hbox hb; have BK363 := q_ (hbox); have GW363 := ge_ hg; have GE363 := ge_ hg; replace HB := hb_ hb; have NB362_363 := nl_ hg BK362; have NB363_362 := nr_ hg BK362; replace BK362 := rb_ BK362 hb; clear hb hbox hg) | ((with_reducible refine gate_dst (N := 6) rfl ?_); (try (refine gate_guard (by rfl) ?_; dsimp only)); refine box_event ?hg (N := 6) ?hd (cs := #[.int .i64 a2]) (t := 3) ?hr ?_; (case hd => rfl); (case hg => rfl); (case hr => exact z95_); intro gb364 hg w8 hbox hb; have BK364 := q_ (hbox); have GW364 := ge_ hg; have GE364 := ge_ hg; replace HB := hb_ hb; have NB362_364 := nl_ hg BK362; have NB364_362 := nr_ hg BK362; replace BK362 := rb_ BK362 hb; have NB363_364 := nl_ hg BK363; have NB364_363 := nr_ hg BK363; replace BK363 := rb_ BK363 hb; clear hb hbox hg))
 (try simp only [Act.put, List.setIfInBounds_toArray, List.set_cons_zero, List.set_cons_succ])
 have H := HC5.out
 clear HC5
 replace H := ke_ H; rcases H with ⟨c9b0, c9b1, H⟩ | ⟨c9, c9b0, c9b1, H⟩
 ·(first | rw [c9b0] | rw [c9b1] | (simp only [i64_w, i32_w]; first | rw [c9b0] | rw [c9b1]) | rw [c9b2] | skip)
  obtain rfl := si_ H
  go_wp2
  go_ret
  exact ⟨z2_, cb_⟩
 ·(first | rw [c9b0] | rw [c9b1] | (simp only [i64_w, i32_w]; first | rw [c9b0] | rw [c9b1]) | rw [c9b2] | skip)
  have HC10 := q_ H
  clear H
  have hnb11 := NB362_363.out
  have hnc11 := NB363_362.out
  have hnb12 := NB362_364.out
  have hnc12 := NB364_362.out
  obtain ⟨hz_, hz_, hz_, hz_, hz_, hz_, hz_, hz_, hz_, hz_⟩ := cs5_ BK362.out
  go_upto_if 18 with (fail)
  have H := HC10.out
  clear HC10
  replace H := kb_ H; rcases H with ⟨rfl, H⟩ | ⟨rfl, H⟩
  ·replace H := bi_ H; obtain ⟨t365, A15, H⟩ := H
   have HC16 := q_ H
   clear H
   have hnb17 := NB362_363.out
   have hnc17 := NB363_362.out
   have hnb18 := NB362_364.out
   have hnc18 := NB364_362.out
   obtain ⟨hz_, hz_, hz_, hz_, hz_, hz_, hz_, hz_, hz_, hz_⟩ := cs5_ BK362.out
   have hnb20 := NB363_364.out
   have hnc20 := NB364_363.out
   have hcz21_0 : w8.cell? ⟨gb363, 0, none⟩ = some (.int .i64 a1) := (blk_cell BK363.out 0).trans rfl
   have hfz21_0 := blk_frozen BK363.out 0
   have hcz22_0 : w8.cell? ⟨gb364, 0, none⟩ = some (.int .i64 a2) := (blk_cell BK364.out 0).trans rfl
   have hfz22_0 := blk_frozen BK364.out 0
   go_upto_if 23 with (first | ((with_reducible refine gate_callee (f := 101) rfl ?_); refine goesL_ (some 22) rfl rfl Try.func101 (by kernel_rfl) rfl #[.agg #[.bool true, .slice A0_1 l0_1.length c0_1, .slice A0_2 l0_2.length c0_2, .slice A0_3 l0_3.length c0_3, .slice A0_4 l0_4.length c0_4], .int .i64 a1, .int .i64 a2] rfl z0_ ?_; (with_reducible refine (impl_leafOk.calls k true _ _ l0_1 _ _ l0_2 _ _ l0_3 _ _ l0_4 a1 a2 t365 _ ?side1 ?side2 ?side3 ?side4 ?side5 ?side6 ?side7 ?side8 A15.out).mono ?_); (case side1 => exact z94_); (case side2 => exact z117_); (case side3 => exact z97_); (case side4 => exact HC0_2.out); (case side5 => exact z98_); (case side6 => exact HC0_3.out); (case side7 => exact z96_); (case side8 => exact z122_); rintro e w23 ⟨rfl, hb⟩; refine ⟨_, rfl, ?_⟩; replace BK362 := rb_ BK362 hb; replace BK363 := rb_ BK363 hb; replace BK364 := rb_ BK364 hb; replace HB := hb_ hb; (try clear hb); (try clear hb2); (try clear hk); (try clear hi)))
   (try simp only [Act.put, List.setIfInBounds_toArray, List.set_cons_zero, List.set_cons_succ])
   have H := HC16.out
   clear HC16
   replace H := kb_ H; rcases H with ⟨rfl, H⟩ | ⟨rfl, H⟩
   ·obtain rfl := si_ H
    go_wp2
    go_ret
    exact ⟨z2_, cb_⟩
   ·obtain rfl := si_ H
    go_wp2
    go_ret
    exact ⟨z2_, cb_⟩
  ·have HC25 := q_ H
   clear H
   go_upto_region 7 with (fail)
   go_cut [50] (fun v50 wc => ∃ (kq : Nat) (x50_24 : Bool), v50 = .bool x50_24 ∧ Aside0 (impl_depthOf.j0 kq a3 x50_24 false l0_1 l0_2 l0_3 l0_4 a1 a2 = some r) ∧ Aside0 (kq ≤ k) ∧ Aside0 (wc.heap[gb362]? = some (.cells #[.bool false, (.slice A0_1 l0_1.length c0_1), (.slice A0_2 l0_2.length c0_2), (.slice A0_3 l0_3.length c0_3), (.slice A0_4 l0_4.length c0_4)] 34 (0, 0))) ∧ Aside0 (wc.heap[gb363]? = some (.cells #[.int .i64 a1] 3 (0, 0))) ∧ Aside0 (wc.heap[gb364]? = some (.cells #[.int .i64 a2] 3 (0, 0))) ∧ Aside0 (Below w.heap.size w wc))
   case first =>
    have H := HC25.out
    clear HC25
    replace H := bi_ H; obtain ⟨t366, A26, H⟩ := H
    replace H := kb_ H; rcases H with ⟨rfl, H⟩ | ⟨rfl, H⟩
    ·replace H := ke_ H; rcases H with ⟨c28b0, c28b1, H⟩ | ⟨c28, c28b0, c28b1, H⟩
     ·(first | rw [c28b0] | rw [c28b1] | (simp only [i64_w, i32_w]; first | rw [c28b0] | rw [c28b1]) | rw [c28b2] | skip)
      replace H := kg_ H; rcases H with ⟨c29b0, H⟩ | ⟨c29b0, H⟩
      ·have c29b1 : decide (6 < l0_4.length) = true := decide_eq_true (by have := of_decide_eq_true c29b0; omega)
       have H' := q_ H
       clear H
       have hnb30 := NB362_363.out
       have hnc30 := NB363_362.out
       have hnb31 := NB362_364.out
       have hnc31 := NB364_362.out
       obtain ⟨hz_, hz_, hz_, hz_, hz_, hz_, hz_, hz_, hz_, hz_⟩ := cs5_ BK362.out
       go_wp2_with (first | ((with_reducible refine gate_callee (f := 102) rfl ?_); refine goesL_ (some 27) rfl rfl Try.func102 (by kernel_rfl) rfl #[.int .i64 (l0_3.length : Int), .int .i64 2, .int .i64 4] rfl z0_ ?_; (with_reducible refine (impl_within.calls (l0_3.length : Int) 2 4 true _ A26.out).mono ?_); rintro e w' ⟨rfl, ⟨nd, rfl⟩⟩; refine ⟨_, rfl, ?_⟩))
       go_meet
       case rel => exact ⟨_, (true), z4_, H', ⟨z34_⟩, ⟨z16_⟩, ⟨z49_⟩, ⟨z17_⟩, ⟨cb_⟩⟩
      ·have c29b1 : decide (6 < l0_4.length) = false := decide_eq_false (by have := of_decide_eq_false c29b0; omega)
       have H' := q_ H
       clear H
       have hnb33 := NB362_363.out
       have hnc33 := NB363_362.out
       have hnb34 := NB362_364.out
       have hnc34 := NB364_362.out
       obtain ⟨hz_, hz_, hz_, hz_, hz_, hz_, hz_, hz_, hz_, hz_⟩ := cs5_ BK362.out
       go_wp2_with (first | ((with_reducible refine gate_callee (f := 102) rfl ?_); refine goesL_ (some 27) rfl rfl Try.func102 (by kernel_rfl) rfl #[.int .i64 (l0_3.length : Int), .int .i64 2, .int .i64 4] rfl z0_ ?_; (with_reducible refine (impl_within.calls (l0_3.length : Int) 2 4 true _ A26.out).mono ?_); rintro e w' ⟨rfl, ⟨nd, rfl⟩⟩; refine ⟨_, rfl, ?_⟩))
       go_meet
       case rel => exact ⟨_, (decide ((l0_1.length : Int) > 0)), z4_, H', ⟨z34_⟩, ⟨z16_⟩, ⟨z49_⟩, ⟨z17_⟩, ⟨cb_⟩⟩
     ·(first | rw [c28b0] | rw [c28b1] | (simp only [i64_w, i32_w]; first | rw [c28b0] | rw [c28b1]) | rw [c28b2] | skip)
      have H' := q_ H
      clear H
      have hnb36 := NB362_363.out
      have hnc36 := NB363_362.out
      have hnb37 := NB362_364.out
      have hnc37 := NB364_362.out
      obtain ⟨hz_, hz_, hz_, hz_, hz_, hz_, hz_, hz_, hz_, hz_⟩ := cs5_ BK362.out
      go_wp2_with (first | ((with_reducible refine gate_callee (f := 102) rfl ?_); refine goesL_ (some 27) rfl rfl Try.func102 (by kernel_rfl) rfl #[.int .i64 (l0_3.length : Int), .int .i64 2, .int .i64 4] rfl z0_ ?_; (with_reducible refine (impl_within.calls (l0_3.length : Int) 2 4 true _ A26.out).mono ?_); rintro e w' ⟨rfl, ⟨nd, rfl⟩⟩; refine ⟨_, rfl, ?_⟩))
      go_meet
      case rel => exact ⟨_, (true), z4_, H', ⟨z34_⟩, ⟨z16_⟩, ⟨z49_⟩, ⟨z17_⟩, ⟨cb_⟩⟩
    ·have H' := q_ H
     clear H
     have hnb39 := NB362_363.out
     have hnc39 := NB363_362.out
     have hnb40 := NB362_364.out
     have hnc40 := NB364_362.out
     obtain ⟨hz_, hz_, hz_, hz_, hz_, hz_, hz_, hz_, hz_, hz_⟩ := cs5_ BK362.out
     go_wp2_with (first | ((with_reducible refine gate_callee (f := 102) rfl ?_); refine goesL_ (some 27) rfl rfl Try.func102 (by kernel_rfl) rfl #[.int .i64 (l0_3.length : Int), .int .i64 2, .int .i64 4] rfl z0_ ?_; (with_reducible refine (impl_within.calls (l0_3.length : Int) 2 4 false _ A26.out).mono ?_); rintro e w' ⟨rfl, ⟨nd, rfl⟩⟩; refine ⟨_, rfl, ?_⟩))
     go_meet
     case rel => exact ⟨_, (true), z4_, H', ⟨z34_⟩, ⟨z16_⟩, ⟨z49_⟩, ⟨z17_⟩, ⟨cb_⟩⟩
   case rest =>
    clear HC25
    try clear c1
    try clear c2
    try clear p2
    try clear c3
    try clear c4
    try clear c6
    try clear p6
    try clear c9
    try clear c9b0
    try clear c9b1
    try clear c9b2
    try clear c10
    try clear c11
    try clear c12
    try clear c14
    try clear c17
    try clear c18
    try clear c20
    try clear c24
    try clear c27
    try clear c28
    try clear c28b0
    try clear c28b1
    try clear c28b2
    try clear c29
    try clear c29b0
    try clear c29b1
    try clear c30
    try clear c31
    try clear c33
    try clear c34
    try clear c36
    try clear c37
    try clear c39
    try clear c40
    repeat clear hz_
    try clear hcz21_0
    try clear hcz22_0
    repeat clear hz_
    try clear hfz21_0
    try clear hfz22_0
    repeat clear hz_
    obtain ⟨kq, x50_24, rfl, HA, HJ24, BK362, BK363, BK364, HB⟩ := hcut
    obtain ⟨kj24, rfl, H⟩ := rn_ (k := kq) HA (by rintro rfl; simp only [impl_depthOf.j0])
    clear HA
    simp only [impl_depthOf.j0] at H
    replace H := kb_ H; rcases H with ⟨rfl, H⟩ | ⟨rfl, H⟩
    ·obtain rfl := si_ H
     go_wp2
     go_ret
     exact ⟨z2_, cb_⟩
    ·replace H := bi_ H; obtain ⟨t367, A43, H⟩ := H
     have HC44 := q_ H
     clear H
     have hnb45 := NB362_363.out
     have hnc45 := NB363_362.out
     have hnb46 := NB362_364.out
     have hnc46 := NB364_362.out
     obtain ⟨hz_, hz_, hz_, hz_, hz_, hz_, hz_, hz_, hz_, hz_⟩ := cs5_ BK362.out
     go_upto_if 54 with (first | ((with_reducible refine gate_callee (f := 103) rfl ?_); refine goesL_ (some 54) rfl rfl Try.func103 (by kernel_rfl) rfl #[.slice A0_4 l0_4.length c0_4, .func (.func 104) #[] #[.pointer (some ⟨gb363, 0, none⟩), .pointer (some ⟨gb364, 0, none⟩)]] rfl z0_ ?_; (with_reducible refine (slices_ContainsFunc_Msg_104.calls kj24 _ _ l0_4 gb363 gb364 a1 a2 t367 _ ?side1 ?side2 ?side3 ?side4 A43.out).mono ?_); (case side1 => exact z96_); (case side2 => exact z122_); (case side3 => (with_reducible repeat (first | refine blk_drewN ?_ _ | refine blk_drew ?_ | refine blk_alloc ?_ _)); exact BK363.out); (case side4 => (with_reducible repeat (first | refine blk_drewN ?_ _ | refine blk_drew ?_ | refine blk_alloc ?_ _)); exact BK364.out); rintro e w48 ⟨rfl, hb⟩; refine ⟨_, rfl, ?_⟩; replace BK362 := rb_ BK362 hb; replace BK363 := rb_ BK363 hb; replace BK364 := rb_ BK364 hb; replace HB := hb_ hb; (try clear hb); (try clear hb2); (try clear hk); (try clear hi)))
     (try simp only [Act.put, List.setIfInBounds_toArray, List.set_cons_zero, List.set_cons_succ])
     have H := HC44.out
     clear HC44
     replace H := kb_ H; rcases H with ⟨rfl, H⟩ | ⟨rfl, H⟩
     ·obtain rfl := si_ H
      go_wp2
      go_ret
      exact ⟨z2_, cb_⟩
     ·have H' := q_ H
      clear H
      have hnb50 := NB363_362.out
      have hnc50 := NB362_363.out
      have hnb51 := NB363_364.out
      have hnc51 := NB364_363.out
      have hcz52_0 : w48.cell? ⟨gb363, 0, none⟩ = some (.int .i64 a1) := (blk_cell BK363.out 0).trans rfl
      have hfz52_0 := blk_frozen BK363.out 0
      have hnb53 := NB362_364.out
      have hnc53 := NB364_362.out
      obtain ⟨hz_, hz_, hz_, hz_, hz_, hz_, hz_, hz_, hz_, hz_⟩ := cs5_ BK362.out
      go_wp2
      go_loopg [9, 10, 59] kj24 (fun kq v9 v10 v59 w' => ∃ (x9_2 : Int) (x10_2 : Int) (x59_2 : Int), v9 = .int .i64 x9_2 ∧ v10 = .int .i64 x10_2 ∧ v59 = .int .i64 x59_2 ∧ Aside0 (impl_depthOf.l0 kq a3 x9_2 x10_2 l0_3 (l0_3.length : Int) x59_2 false l0_1 l0_2 l0_3 l0_4 a2 = some r) ∧ Aside0 (kq ≤ kj24) ∧ Aside0 (w'.heap[gb362]? = some (.cells #[.bool false, (.slice A0_1 l0_1.length c0_1), (.slice A0_2 l0_2.length c0_2), (.slice A0_3 l0_3.length c0_3), (.slice A0_4 l0_4.length c0_4)] 34 (0, 0))) ∧ Aside0 (w'.heap[gb364]? = some (.cells #[.int .i64 a2] 3 (0, 0))) ∧ Aside0 (Below w.heap.size w w'))
      case atStart => exact ⟨(0), (a1), (0), z4_, z4_, z4_, H', ⟨Nat.le_refl _⟩, ⟨z16_⟩, ⟨z17_⟩, ⟨cb_⟩⟩
      case round =>
       clear H'
       try clear c1
       try clear c2
       try clear p2
       try clear c3
       try clear c4
       try clear c5
       try clear c6
       try clear p6
       try clear c9
       try clear c9b0
       try clear c9b1
       try clear c9b2
       try clear c10
       try clear c11
       try clear c12
       try clear c14
       try clear c17
       try clear c18
       try clear c20
       try clear c24
       try clear c27
       try clear c28
       try clear c28b0
       try clear c28b1
       try clear c28b2
       try clear c29
       try clear c29b0
       try clear c29b1
       try clear c30
       try clear c31
       try clear c33
       try clear c34
       try clear c36
       try clear c37
       try clear c39
       try clear c40
       try clear c42
       try clear c45
       try clear c46
       try clear c49
       try clear c50
       try clear c51
       try clear c53
       repeat clear hz_
       try clear hcz21_0
       try clear hcz22_0
       repeat clear hz_
       try clear hcz52_0
       repeat clear hz_
       try clear hfz21_0
       try clear hfz22_0
       repeat clear hz_
       try clear hfz52_0
       repeat clear hz_
       try clear p2
       try clear p6
       obtain ⟨x9_2, x10_2, x59_2, rfl, rfl, rfl, HA, HK2, BK362, BK364, HB⟩ := hrel
       obtain ⟨k2, rfl, H⟩ := rn_ (k := gk) HA (by rintro rfl; simp only [impl_depthOf.l0])
       clear HA
       simp only [impl_depthOf.l0] at H
       replace H := kd_ H; rcases H with ⟨c55b0, H⟩ | ⟨c55b0, H⟩
       ·(first | rw [c55b0] | rw [c55b1] | (simp only [i64_w, i32_w]; first | rw [c55b0] | rw [c55b1]) | rw [c55b2] | skip)
        replace H := kdn_ H; obtain ⟨c56b0, H⟩ := H
        replace H := kdn_ H; obtain ⟨c57b0, H⟩ := H
        have HC58 := q_ H
        clear H
        have p368 : 0 ≤ (x59_2 : Int) := of_decide_eq_true z1_
        have q368 : x59_2 < (l0_3.length : Int) := of_decide_eq_true z1_
        obtain ⟨ad368, A368_1, c368_1, A368_2, c368_2, A368_3, c368_3, A368_4, c368_4, e368, hx368_0, hx368_1, hx368_2, hx368_3, hx368_4, hl368_1, hi368_1, hl368_2, hi368_2, hl368_3, hi368_3, hl368_4, hi368_4⟩ := at_T34 HR0_3.out x59_2 p368 q368
        cases e368
        replace hx368_0 := up_ HB hx368_0
        replace hx368_1 := up_ HB hx368_1
        replace hx368_2 := up_ HB hx368_2
        replace hx368_3 := up_ HB hx368_3
        replace hx368_4 := up_ HB hx368_4
        have HR368_1 := q_ hi368_1
        have HC368_1 := q_ hl368_1
        clear hi368_1 hl368_1
        have HR368_2 := q_ hi368_2
        have HC368_2 := q_ hl368_2
        clear hi368_2 hl368_2
        have HR368_3 := q_ hi368_3
        have HC368_3 := q_ hl368_3
        clear hi368_3 hl368_3
        have HR368_4 := q_ hi368_4
        have HC368_4 := q_ hl368_4
        clear hi368_4 hl368_4
        replace p368 := eq_true p368
        replace q368 := eq_true q368
        go_upto_if 69 with (first | ((with_reducible refine gate_dst (N := 12) rfl ?_); (try (refine gate_guard (by rfl) ?_; dsimp only)); refine box_event ?hg (N := 12) ?hd (cs := #[.bool false, .slice none 0 0, .slice none 0 0, .slice none 0 0, .slice none 0 0]) (t := 34) ?hr ?_; (case hd => rfl); (case hg => rfl); (case hr => exact z95_); intro gb369 hg w59 hbox hb; have BK369 := q_ (hbox); have GW369 := ge_ hg; have GE369 := ge_ hg; replace HB := hb_ hb; have NB362_369 := nl_ hg BK362; have NB369_362 := nr_ hg BK362; replace BK362 := rb_ BK362 hb; have NB364_369 := nl_ hg BK364; have NB369_364 := nr_ hg BK364; replace BK364 := rb_ BK364 hb; clear hb hbox hg; have hnb60 := NB369_362.out; have hnc60 := NB362_369.out; have hnb61 := NB369_364.out; have hnc61 := NB364_369.out; obtain ⟨hz_, hz_, hz_, hz_, hz_, hz_, hz_, hz_, hz_, hz_⟩ := cs5_ BK369.out; have hnb63 := NB364_362.out; have hnc63 := NB362_364.out; have hcz64_0 : w59.cell? ⟨gb364, 0, none⟩ = some (.int .i64 a2) := (blk_cell BK364.out 0).trans rfl; have hfz64_0 := blk_frozen BK364.out 0; obtain ⟨hz_, hz_, hz_, hz_, hz_, hz_, hz_, hz_, hz_, hz_⟩ := cs5_ BK362.out))
        (try simp only [Act.put, List.setIfInBounds_toArray, List.set_cons_zero, List.set_cons_succ])
        go_cut [13] (fun v13 wc => ∃ (kq : Nat) (x13_57 : Int), v13 = .int .i64 x13_57 ∧ Aside0 (impl_depthOf.j2 kq a3 x9_2 x10_2 x59_2 x13_57 l0_3 (l0_3.length : Int) x59_2 false l0_1 l0_2 l0_3 l0_4 a2 ((rd_T34 l0_3 x59_2).f0) ((rd_T34 l0_3 x59_2).f1) ((rd_T34 l0_3 x59_2).f2) ((rd_T34 l0_3 x59_2).f3) ((rd_T34 l0_3 x59_2).f4) = some r) ∧ Aside0 (kq ≤ k2) ∧ Aside0 (wc.heap[gb362]? = some (.cells #[.bool false, (.slice A0_1 l0_1.length c0_1), (.slice A0_2 l0_2.length c0_2), (.slice (some ad368) l0_3.length c0_3), (.slice A0_4 l0_4.length c0_4)] 34 (0, 0))) ∧ Aside0 (wc.heap[gb364]? = some (.cells #[.int .i64 a2] 3 (0, 0))) ∧ Aside0 (wc.heap[gb369]? = some (.cells #[.bool ((rd_T34 l0_3 x59_2).f0), (.slice A368_1 ((rd_T34 l0_3 x59_2).f1).length c368_1), (.slice A368_2 ((rd_T34 l0_3 x59_2).f2).length c368_2), (.slice A368_3 ((rd_T34 l0_3 x59_2).f3).length c368_3), (.slice A368_4 ((rd_T34 l0_3 x59_2).f4).length c368_4)] 34 (0, 0))) ∧ Aside0 (Below w.heap.size w wc))
        case first =>
         have H := HC58.out
         clear HC58
         replace H := kd_ H; rcases H with ⟨c66b0, H⟩ | ⟨c66b0, H⟩
         ·(first | rw [c66b0] | rw [c66b1] | (simp only [i64_w, i32_w]; first | rw [c66b0] | rw [c66b1]) | rw [c66b2] | skip)
          have H' := q_ H
          clear H
          have hnb67 := NB362_364.out
          have hnc67 := NB364_362.out
          have hnb68 := NB362_369.out
          have hnc68 := NB369_362.out
          obtain ⟨hz_, hz_, hz_, hz_, hz_, hz_, hz_, hz_, hz_, hz_⟩ := cs5_ BK362.out
          have p370 : 0 ≤ (x59_2 : Int) := of_decide_eq_true z1_
          have q370 : x59_2 < (l0_2.length : Int) := of_decide_eq_true z1_
          obtain ⟨ad370, e370, hx370_0⟩ := Kd.at_int HR0_2.out x59_2 p370 q370
          cases e370
          have hn370_0 : ad370.block ≠ gb369 := Nat.ne_of_lt (Nat.lt_of_lt_of_le (by have := World.block_lt_of_cell? _ _ hx370_0; first | rwa [add_block] at this | exact this) GW369.out)
          have hn370_1 : ad370.block ≠ gb369 := Nat.ne_of_lt (Nat.lt_of_lt_of_le (by have := World.block_lt_of_cell? _ _ hx370_0; first | rwa [add_block] at this | exact this) GW369.out)
          have hn370_2 : ad370.block ≠ gb369 := Nat.ne_of_lt (Nat.lt_of_lt_of_le (by have := World.block_lt_of_cell? _ _ hx370_0; first | rwa [add_block] at this | exact this) GW369.out)
          have hn370_3 : ad370.block ≠ gb369 := Nat.ne_of_lt (Nat.lt_of_lt_of_le (by have := World.block_lt_of_cell? _ _ hx370_0; first | rwa [add_block] at this | exact this) GW369.out)
          have hn370_4 : ad370.block ≠ gb369 := Nat.ne_of_lt (Nat.lt_of_lt_of_le (by have := World.block_lt_of_cell? _ _ hx370_0; first | rwa [add_block] at this | exact this) GW369.out)
          replace hx370_0 := up_ HB hx370_0
          replace hx370_0 := (cell_far (p := ⟨gb369, 0, none⟩) (by first | (rw [add_block]; exact hn370_0) | (show (Addr.add _ _).block ≠ _; rw [add_block]; exact hn370_0) | exact hn370_0) (.bool ((rd_T34 l0_3 x59_2).f0))).trans hx370_0
          replace hx370_0 := (cell_far (p := ⟨gb369, 1, none⟩) (by first | (rw [add_block]; exact hn370_1) | (show (Addr.add _ _).block ≠ _; rw [add_block]; exact hn370_1) | exact hn370_1) (.slice A368_1 ((rd_T34 l0_3 x59_2).f1).length c368_1)).trans hx370_0
          replace hx370_0 := (cell_far (p := ⟨gb369, 2, none⟩) (by first | (rw [add_block]; exact hn370_2) | (show (Addr.add _ _).block ≠ _; rw [add_block]; exact hn370_2) | exact hn370_2) (.slice A368_2 ((rd_T34 l0_3 x59_2).f2).length c368_2)).trans hx370_0
          replace hx370_0 := (cell_far (p := ⟨gb369, 3, none⟩) (by first | (rw [add_block]; exact hn370_3) | (show (Addr.add _ _).block ≠ _; rw [add_block]; exact hn370_3) | exact hn370_3) (.slice A368_3 ((rd_T34 l0_3 x59_2).f3).length c368_3)).trans hx370_0
          replace hx370_0 := (cell_far (p := ⟨gb369, 4, none⟩) (by first | (rw [add_block]; exact hn370_4) | (show (Addr.add _ _).block ≠ _; rw [add_block]; exact hn370_4) | exact hn370_4) (.slice A368_4 ((rd_T34 l0_3 x59_2).f4).length c368_4)).trans hx370_0
          clear hn370_0
          clear hn370_1
          clear hn370_2
          clear hn370_3
          clear hn370_4
          replace p370 := eq_true p370
          replace q370 := eq_true q370
          go_wp2
          go_meet
          case rel => exact ⟨_, (rd l0_2 x59_2), z4_, H', ⟨z84_⟩, ⟨z10_⟩, ⟨z11_⟩, ⟨z7_⟩, ⟨cb_⟩⟩
         ·(first | rw [c66b0] | rw [c66b1] | (simp only [i64_w, i32_w]; first | rw [c66b0] | rw [c66b1]) | rw [c66b2] | skip)
          have H' := q_ H
          clear H
          go_wp2
          go_meet
          case rel => exact ⟨_, (a2), z4_, H', ⟨z84_⟩, ⟨z10_⟩, ⟨z11_⟩, ⟨z7_⟩, ⟨cb_⟩⟩
        case rest =>
         clear HC58
         try clear c1
         try clear c2
         try clear p2
         try clear c3
         try clear p3
         try clear q3
         try clear hx3
         try clear c4
         try clear c5
         try clear c6
         try clear p6
         try clear c9
         try clear c9b0
         try clear c9b1
         try clear c9b2
         try clear c10
         try clear c11
         try clear c12
         try clear c14
         try clear c17
         try clear c18
         try clear c20
         try clear c24
         try clear c27
         try clear c28
         try clear c28b0
         try clear c28b1
         try clear c28b2
         try clear c29
         try clear c29b0
         try clear c29b1
         try clear c30
         try clear c31
         try clear c33
         try clear c34
         try clear c36
         try clear p36
         try clear q36
         try clear hx36
         try clear c37
         try clear p37
         try clear q37
         try clear hx37
         try clear c39
         try clear c40
         try clear c42
         try clear c45
         try clear c46
         try clear c49
         try clear c50
         try clear c51
         try clear c53
         try clear c55
         try clear c55b0
         try clear c55b1
         try clear c55b2
         try clear c56
         try clear c56b0
         try clear c57
         try clear c57b0
         try clear c60
         try clear c61
         try clear c63
         try clear c64
         try clear p64
         try clear c66
         try clear c66b0
         try clear c66b1
         try clear c66b2
         try clear c67
         try clear c68
         repeat clear hz_
         try clear hcz21_0
         try clear hcz22_0
         repeat clear hz_
         try clear hcz52_0
         repeat clear hz_
         try clear hcz64_0
         repeat clear hz_
         try clear hfz21_0
         try clear hfz22_0
         repeat clear hz_
         try clear hfz52_0
         repeat clear hz_
         try clear hfz64_0
         repeat clear hz_
         try clear hx368_0
         try clear hx368_1
         try clear hx368_2
         try clear hx368_3
         try clear hx368_4
         try clear hx370_0
         try clear p2
         try clear p368
         try clear p370
         try clear p6
         try clear q368
         try clear q370
         obtain ⟨kq, x13_57, rfl, HA, HJ57, BK362, BK364, BK369, HB⟩ := hcut
         obtain ⟨kj57, rfl, H⟩ := rn_ (k := kq) HA (by rintro rfl; simp only [impl_depthOf.j2])
         clear HA
         simp only [impl_depthOf.j2] at H
         have HC70 := q_ H
         clear H
         go_upto_region 19 with (fail)
         go_cut [94] (fun v94 wc => ∃ (kq : Nat) (x94_69 : Bool), v94 = .bool x94_69 ∧ Aside0 (impl_depthOf.j3 kq a3 x9_2 x10_2 x59_2 x13_57 l0_3 (l0_3.length : Int) x59_2 x94_69 false l0_1 l0_2 l0_3 l0_4 a2 ((rd_T34 l0_3 x59_2).f0) ((rd_T34 l0_3 x59_2).f1) ((rd_T34 l0_3 x59_2).f2) ((rd_T34 l0_3 x59_2).f3) ((rd_T34 l0_3 x59_2).f4) = some r) ∧ Aside0 (kq ≤ kj57) ∧ Aside0 (wc.heap[gb362]? = some (.cells #[.bool false, (.slice A0_1 l0_1.length c0_1), (.slice A0_2 l0_2.length c0_2), (.slice (some ad368) l0_3.length c0_3), (.slice A0_4 l0_4.length c0_4)] 34 (0, 0))) ∧ Aside0 (wc.heap[gb364]? = some (.cells #[.int .i64 a2] 3 (0, 0))) ∧ Aside0 (wc.heap[gb369]? = some (.cells #[.bool ((rd_T34 l0_3 x59_2).f0), (.slice A368_1 ((rd_T34 l0_3 x59_2).f1).length c368_1), (.slice A368_2 ((rd_T34 l0_3 x59_2).f2).length c368_2), (.slice A368_3 ((rd_T34 l0_3 x59_2).f3).length c368_3), (.slice A368_4 ((rd_T34 l0_3 x59_2).f4).length c368_4)] 34 (0, 0))) ∧ Aside0 (Below w.heap.size w wc))
         case first =>
          have H := HC70.out
          clear HC70
          replace H := kd_ H; rcases H with ⟨c71b0, H⟩ | ⟨c71b0, H⟩
          ·(first | rw [c71b0] | rw [c71b1] | (simp only [i64_w, i32_w]; first | rw [c71b0] | rw [c71b1]) | rw [c71b2] | skip)
           replace H := bi_ H; obtain ⟨t371, A72, H⟩ := H
           replace H := kb_ H; rcases H with ⟨rfl, H⟩ | ⟨rfl, H⟩
           ·replace H := kd_ H; rcases H with ⟨c74b0, H⟩ | ⟨c74b0, H⟩
            ·have H' := q_ H
             clear H
             have hnb75 := NB362_364.out
             have hnc75 := NB364_362.out
             have hnb76 := NB362_369.out
             have hnc76 := NB369_362.out
             obtain ⟨hz_, hz_, hz_, hz_, hz_, hz_, hz_, hz_, hz_, hz_⟩ := cs5_ BK362.out
             go_wp2_with (first | (go_at_call 102; (with_reducible refine (impl_within.calls x13_57 1 999 true _ A72.out).mono ?_); rintro e w' ⟨rfl, ⟨nd, rfl⟩⟩))
             go_meet
             case rel => exact ⟨_, (true), z4_, H', ⟨z58_⟩, ⟨z16_⟩, ⟨z17_⟩, ⟨z50_⟩, ⟨cb_⟩⟩
            ·have H' := q_ H
             clear H
             have hnb78 := NB362_364.out
             have hnc78 := NB364_362.out
             have hnb79 := NB362_369.out
             have hnc79 := NB369_362.out
             obtain ⟨hz_, hz_, hz_, hz_, hz_, hz_, hz_, hz_, hz_, hz_⟩ := cs5_ BK362.out
             go_wp2_with (first | (go_at_call 102; (with_reducible refine (impl_within.calls x13_57 1 999 true _ A72.out).mono ?_); rintro e w' ⟨rfl, ⟨nd, rfl⟩⟩; have hnb81 := NB364_369.out; have hnc81 := NB369_364.out; have hcz82_0 : wc.cell? ⟨gb364, 0, none⟩ = some (.int .i64 a2) := (blk_cell BK364.out 0).trans rfl; have hfz82_0 := blk_frozen BK364.out 0))
             go_meet
             case rel => exact ⟨_, (decide (x13_57 ≥ a2)), z4_, H', ⟨z58_⟩, ⟨z16_⟩, ⟨z17_⟩, ⟨z50_⟩, ⟨cb_⟩⟩
           ·have H' := q_ H
            clear H
            have hnb83 := NB362_364.out
            have hnc83 := NB364_362.out
            have hnb84 := NB362_369.out
            have hnc84 := NB369_362.out
            obtain ⟨hz_, hz_, hz_, hz_, hz_, hz_, hz_, hz_, hz_, hz_⟩ := cs5_ BK362.out
            go_wp2_with (first | (go_at_call 102; (with_reducible refine (impl_within.calls x13_57 1 999 false _ A72.out).mono ?_); rintro e w' ⟨rfl, ⟨nd, rfl⟩⟩))
            go_meet
            case rel => exact ⟨_, (true), z4_, H', ⟨z58_⟩, ⟨z16_⟩, ⟨z17_⟩, ⟨z50_⟩, ⟨cb_⟩⟩
          ·(first | rw [c71b0] | rw [c71b1] | (simp only [i64_w, i32_w]; first | rw [c71b0] | rw [c71b1]) | rw [c71b2] | skip)
           have H' := q_ H
           clear H
           have hnb86 := NB362_364.out
           have hnc86 := NB364_362.out
           have hnb87 := NB362_369.out
           have hnc87 := NB369_362.out
           obtain ⟨hz_, hz_, hz_, hz_, hz_, hz_, hz_, hz_, hz_, hz_⟩ := cs5_ BK362.out
           go_wp2
           go_meet
           case rel => exact ⟨_, (false), z4_, H', ⟨z58_⟩, ⟨z16_⟩, ⟨z17_⟩, ⟨z50_⟩, ⟨cb_⟩⟩
         case rest =>
          clear HC70
          try clear c1
          try clear c2
          try clear p2
          try clear c3
          try clear p3
          try clear q3
          try clear hx3
          try clear c4
          try clear c5
          try clear c6
          try clear p6
          try clear c7
          try clear c8
          try clear c9
          try clear c9b0
          try clear c9b1
          try clear c9b2
          try clear c10
          try clear c11
          try clear c12
          try clear c14
          try clear c17
          try clear c18
          try clear c20
          try clear c24
          try clear c27
          try clear c28
          try clear c28b0
          try clear c28b1
          try clear c28b2
          try clear c29
          try clear c29b0
          try clear c29b1
          try clear c30
          try clear c31
          try clear c33
          try clear c34
          try clear c36
          try clear p36
          try clear q36
          try clear hx36
          try clear c37
          try clear p37
          try clear q37
          try clear hx37
          try clear c39
          try clear c40
          try clear c42
          try clear c45
          try clear c46
          try clear c49
          try clear c50
          try clear c51
          try clear c53
          try clear c55
          try clear c55b0
          try clear c55b1
          try clear c55b2
          try clear c56
          try clear c56b0
          try clear c57
          try clear c57b0
          try clear c60
          try clear c61
          try clear c63
          try clear c64
          try clear p64
          try clear c66
          try clear c66b0
          try clear c66b1
          try clear c66b2
          try clear c67
          try clear c68
          try clear c71
          try clear c71b0
          try clear c71b1
          try clear c71b2
          try clear c73
          try clear c74
          try clear c74b0
          try clear c75
          try clear c76
          try clear c78
          try clear c79
          try clear c81
          try clear c83
          try clear c84
          try clear c86
          try clear c87
          repeat clear hz_
          try clear hcz21_0
          try clear hcz22_0
          repeat clear hz_
          try clear hcz52_0
          repeat clear hz_
          try clear hcz64_0
          repeat clear hz_
          try clear hcz82_0
          repeat clear hz_
          try clear hfz21_0
          try clear hfz22_0
          repeat clear hz_
          try clear hfz52_0
          repeat clear hz_
          try clear hfz64_0
          repeat clear hz_
          try clear hfz82_0
          repeat clear hz_
          try clear hx368_0
          try clear hx368_1
          try clear hx368_2
          try clear hx368_3
          try clear hx368_4
          try clear hx370_0
          try clear p2
          try clear p3
          try clear p36
          try clear p368
          try clear p37
          try clear p370
          try clear p6
          try clear p64
          try clear q3
          try clear q36
          try clear q368
          try clear q37
          try clear q370
          obtain ⟨kq, x94_69, rfl, HA, HJ69, BK362, BK364, BK369, HB⟩ := hcut
          obtain ⟨kj69, rfl, H⟩ := rn_ (k := kq) HA (by rintro rfl; simp only [impl_depthOf.j3])
          clear HA
          simp only [impl_depthOf.j3] at H
          replace H := kb_ H; rcases H with ⟨rfl, H⟩ | ⟨rfl, H⟩
          ·obtain rfl := si_ H
           go_wp2
           go_ret
           exact ⟨z2_, cb_⟩
          ·replace H := bi_ H; obtain ⟨t372, A90, H⟩ := H
           replace H := ke_ H; rcases H with ⟨c91b0, c91b1, H⟩ | ⟨c91, c91b0, c91b1, H⟩
           ·obtain rfl := si_ H
            have hnb92 := NB369_362.out
            have hnc92 := NB362_369.out
            have hnb93 := NB369_364.out
            have hnc93 := NB364_369.out
            obtain ⟨hz_, hz_, hz_, hz_, hz_, hz_, hz_, hz_, hz_, hz_⟩ := cs5_ BK369.out
            go_wp2_with (first | ((with_reducible refine gate_callee (f := 64) rfl ?_); refine goesL_ (some 100) rfl rfl Try.func64 (by kernel_rfl) rfl #[.agg #[.bool ((rd_T34 l0_3 x59_2).f0), .slice A368_1 ((rd_T34 l0_3 x59_2).f1).length c368_1, .slice A368_2 ((rd_T34 l0_3 x59_2).f2).length c368_2, .slice A368_3 ((rd_T34 l0_3 x59_2).f3).length c368_3, .slice A368_4 ((rd_T34 l0_3 x59_2).f4).length c368_4], .int .i64 x10_2, .int .i64 x13_57, .int .i64 (wrap64 (a3 - 1))] rfl z0_ ?_; (with_reducible refine (ih kj69 z55_ ((rd_T34 l0_3 x59_2).f0) _ _ ((rd_T34 l0_3 x59_2).f1) _ _ ((rd_T34 l0_3 x59_2).f2) _ _ ((rd_T34 l0_3 x59_2).f3) _ _ ((rd_T34 l0_3 x59_2).f4) x10_2 x13_57 (wrap64 (a3 - 1)) t372 _ ?side1 ?side2 ?side3 ?side4 ?side5 ?side6 ?side7 ?side8 A90.out).mono ?_); (case side1 => exact z104_); (case side2 => exact HC368_1.out); (case side3 => exact z105_); (case side4 => exact HC368_2.out); (case side5 => exact z106_); (case side6 => exact HC368_3.out); (case side7 => exact z107_); (case side8 => exact HC368_4.out); rintro e w95 ⟨rfl, hb⟩; refine ⟨_, rfl, ?_⟩; replace HB := hb_ hb; (try clear hb); (try clear hb2); (try clear hk); (try clear hi)))
            go_ret
            exact ⟨z2_, cb_⟩
           ·replace H := kg_ H; rcases H with ⟨c96b0, H⟩ | ⟨c96b0, H⟩
            ·have HC97 := q_ H
             clear H
             have hnb98 := NB369_362.out
             have hnc98 := NB362_369.out
             have hnb99 := NB369_364.out
             have hnc99 := NB364_369.out
             obtain ⟨hz_, hz_, hz_, hz_, hz_, hz_, hz_, hz_, hz_, hz_⟩ := cs5_ BK369.out
             go_upto_if 111 with (first | ((with_reducible refine gate_callee (f := 64) rfl ?_); refine goesL_ (some 100) rfl rfl Try.func64 (by kernel_rfl) rfl #[.agg #[.bool ((rd_T34 l0_3 x59_2).f0), .slice A368_1 ((rd_T34 l0_3 x59_2).f1).length c368_1, .slice A368_2 ((rd_T34 l0_3 x59_2).f2).length c368_2, .slice A368_3 ((rd_T34 l0_3 x59_2).f3).length c368_3, .slice A368_4 ((rd_T34 l0_3 x59_2).f4).length c368_4], .int .i64 x10_2, .int .i64 x13_57, .int .i64 (wrap64 (a3 - 1))] rfl z0_ ?_; (with_reducible refine (ih kj69 z55_ ((rd_T34 l0_3 x59_2).f0) _ _ ((rd_T34 l0_3 x59_2).f1) _ _ ((rd_T34 l0_3 x59_2).f2) _ _ ((rd_T34 l0_3 x59_2).f3) _ _ ((rd_T34 l0_3 x59_2).f4) x10_2 x13_57 (wrap64 (a3 - 1)) t372 _ ?side1 ?side2 ?side3 ?side4 ?side5 ?side6 ?side7 ?side8 A90.out).mono ?_); (case side1 => exact z104_); (case side2 => exact HC368_1.out); (case side3 => exact z105_); (case side4 => exact HC368_2.out); (case side5 => exact z106_); (case side6 => exact HC368_3.out); (case side7 => exact z107_); (case side8 => exact HC368_4.out); rintro e w101 ⟨rfl, hb⟩; refine ⟨_, rfl, ?_⟩; replace BK362 := rb_ BK362 hb; replace BK364 := rb_ BK364 hb; replace BK369 := rb_ BK369 hb; replace HB := hb_ hb; (try clear hb); (try clear hb2); (try clear hk); (try clear hi)))
             (try simp only [Act.put, List.setIfInBounds_toArray, List.set_cons_zero, List.set_cons_succ])
             have H := HC97.out
             clear HC97
             replace H := ke_ H; rcases H with ⟨c102b0, c102b1, H⟩ | ⟨c102, c102b0, c102b1, H⟩
             ·(first | rw [c102b0] | rw [c102b1] | (simp only [i64_w, i32_w]; first | rw [c102b0] | rw [c102b1]) | rw [c102b2] | skip)
              have H' := q_ H
              clear H
              go_wp2
              go_roundg kj69
              case measure => have := HJ24.out; have := HK2.out; have := HJ57.out; have := HJ69.out; omega
              case rel => exact ⟨(t372), (x13_57), (wrap64 (x59_2 + 1)), z4_, z4_, z4_, H', ⟨z55_⟩, ⟨z16_⟩, ⟨z17_⟩, ⟨cb_⟩⟩
             ·(first | rw [c102b0] | rw [c102b1] | (simp only [i64_w, i32_w]; first | rw [c102b0] | rw [c102b1]) | rw [c102b2] | skip)
              obtain rfl := si_ H
              go_wp2
              go_ret
              exact ⟨z2_, cb_⟩
            ·have H' := q_ H
             clear H
             have hnb103 := NB369_362.out
             have hnc103 := NB362_369.out
             have hnb104 := NB369_364.out
             have hnc104 := NB364_369.out
             obtain ⟨hz_, hz_, hz_, hz_, hz_, hz_, hz_, hz_, hz_, hz_⟩ := cs5_ BK369.out
             go_wp2_with (first | ((with_reducible refine gate_callee (f := 64) rfl ?_); refine goesL_ (some 100) rfl rfl Try.func64 (by kernel_rfl) rfl #[.agg #[.bool ((rd_T34 l0_3 x59_2).f0), .slice A368_1 ((rd_T34 l0_3 x59_2).f1).length c368_1, .slice A368_2 ((rd_T34 l0_3 x59_2).f2).length c368_2, .slice A368_3 ((rd_T34 l0_3 x59_2).f3).length c368_3, .slice A368_4 ((rd_T34 l0_3 x59_2).f4).length c368_4], .int .i64 x10_2, .int .i64 x13_57, .int .i64 (wrap64 (a3 - 1))] rfl z0_ ?_; (with_reducible refine (ih kj69 z55_ ((rd_T34 l0_3 x59_2).f0) _ _ ((rd_T34 l0_3 x59_2).f1) _ _ ((rd_T34 l0_3 x59_2).f2) _ _ ((rd_T34 l0_3 x59_2).f3) _ _ ((rd_T34 l0_3 x59_2).f4) x10_2 x13_57 (wrap64 (a3 - 1)) t372 _ ?side1 ?side2 ?side3 ?side4 ?side5 ?side6 ?side7 ?side8 A90.out).mono ?_); (case side1 => exact z104_); (case side2 => exact HC368_1.out); (case side3 => exact z105_); (case side4 => exact HC368_2.out); (case side5 => exact z106_); (case side6 => exact HC368_3.out); (case side7 => exact z107_); (case side8 => exact HC368_4.out); rintro e w106 ⟨rfl, hb⟩; refine ⟨_, rfl, ?_⟩; replace BK362 := rb_ BK362 hb; replace BK364 := rb_ BK364 hb; replace BK369 := rb_ BK369 hb; replace HB := hb_ hb; (try clear hb); (try clear hb2); (try clear hk); (try clear hi)))
             go_roundg kj69
             case measure => have := HJ24.out; have := HK2.out; have := HJ57.out; have := HJ69.out; omega
             case rel => exact ⟨(t372), (x13_57), (wrap64 (x59_2 + 1)), z4_, z4_, z4_, H', ⟨z55_⟩, ⟨z16_⟩, ⟨z17_⟩, ⟨cb_⟩⟩
       ·(first | rw [c55b0] | rw [c55b1] | (simp only [i64_w, i32_w]; first | rw [c55b0] | rw [c55b1]) | rw [c55b2] | skip)
        obtain rfl := si_ H
        go_wp2
        go_ret
        exact ⟨z2_, cb_⟩

end Go.Proofs.Ytfnndcpaldkkoaa.PFnExactTreeRange
