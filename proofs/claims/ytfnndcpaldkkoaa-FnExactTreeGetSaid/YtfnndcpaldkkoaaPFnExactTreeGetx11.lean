-- Written by a program of this session, which goes by the kit's print. Not trusted: Lean checks it.
import Derived.Test.YtfnndcpaldkkoaaPFnExactTreeGetx0
import Derived.Test.YtfnndcpaldkkoaaPFnExactTreeGetx8
import Derived.Test.YtfnndcpaldkkoaaPFnExactTreeGetx10
namespace Go.Proofs.Ytfnndcpaldkkoaa.PFnExactTreeGet
open Go.RowKit Go.Proofs.YtfnndcpaldkkoaaW.PrintWords Go.Proofs.YtfnndcpaldkkoaaW.PrintLast Go.Proofs.YtfnndcpaldkkoaaW.PrintMore
attribute [local go_sem] max2_int min2_int max_two min_two max_three min_three max_four min_four   -- for this text's walks alone
set_option linter.unusedVariables false
set_option linter.unusedSimpArgs false

/-! ### spec_TreeGet: function 34 -/
def spec_TreeGet.l0 : Nat → Int → Bool → List (S92) → List Int → List (S34) → List (S72) → Bool → List (S92) → List Int → List (S34) → List (S72) → Option (Int × Bool)
 | 0, _, _, _, _, _, _, _, _, _, _, _ => none
 | k + 1, x1, x310000, x310001, x310002, x310003, x310004, x312000, x312001, x312002, x312003, x312004 => if x312000 = true then ((some (([] : List (S92)) : List (S92))).bind fun y314 => ((spec_MapGet.f k x312001 x1).bind fun bt317 => (if bt317.2 = true then (if y314.length < 8796093022208 then ((spec_l3Pending.f k x310000 x310001 x310002 x310003 x310004 x1).bind fun t322 => ((spec_MapAll.f k (y314 ++ [(⟨x1, bt317.1⟩ : S92)]) t322).bind fun t325 => ((spec_MapGet.f k t325 x1).bind fun bt328 => (some (bt328.1, bt328.2))))) else (none)) else ((spec_l3Pending.f k x310000 x310001 x310002 x310003 x310004 x1).bind fun t330 => ((spec_MapAll.f k y314 t330).bind fun t333 => ((spec_MapGet.f k t333 x1).bind fun bt336 => (some (bt336.1, bt336.2)))))))) else ((spec_l2Kid.f k x312000 x312001 x312002 x312003 x312004 x1).bind fun t312 => (if 0 ≤ t312 then (if t312 < (x312003.length : Int) then (spec_TreeGet.l0 k x1 x310000 x310001 x310002 x310003 x310004 ((rd_T34 x312003 t312).f0) ((rd_T34 x312003 t312).f1) ((rd_T34 x312003 t312).f2) ((rd_T34 x312003 t312).f3) ((rd_T34 x312003 t312).f4)) else (none)) else (none)))
def spec_TreeGet.f (k : Nat) (a0_0 : Bool) (l0_1 : List (S92)) (l0_2 : List Int) (l0_3 : List (S34)) (l0_4 : List (S72)) (a1 : Int) : Option (Int × Bool) := (spec_TreeOk.f k a0_0 l0_1 l0_2 l0_3 l0_4).bind fun t310 => (if t310 = true then (spec_TreeGet.l0 k a1 a0_0 l0_1 l0_2 l0_3 l0_4 a0_0 l0_1 l0_2 l0_3 l0_4) else (some (0, false)))
theorem spec_TreeGet.mono_l : ∀ k, (∀ y0 y1 y2 y3 y4 y5 y6 y7 y8 y9 y10, LeO (spec_TreeGet.l0 k y0 y1 y2 y3 y4 y5 y6 y7 y8 y9 y10) (spec_TreeGet.l0 (k + 1) y0 y1 y2 y3 y4 y5 y6 y7 y8 y9 y10))
 | 0 => fun _ _ _ _ _ _ _ _ _ _ _ r h => by simp [spec_TreeGet.l0] at h
 | k + 1 => by
  have ih0 := spec_TreeGet.mono_l k
  ·intro y0 y1 y2 y3 y4 y5 y6 y7 y8 y9 y10
   unfold spec_TreeGet.l0
   have m0 := @spec_MapAll.mono
   have m1 := @spec_MapGet.mono
   have m2 := @spec_TreeOk.mono
   have m3 := @spec_l2Kid.mono
   have m4 := @spec_l3Pending.mono
   exact zm_
theorem spec_TreeGet.mono : ∀ a0 a1 a2 a3 a4 a5 k, LeO (spec_TreeGet.f k a0 a1 a2 a3 a4 a5) (spec_TreeGet.f (k + 1) a0 a1 a2 a3 a4 a5) := by
 intro a0 a1 a2 a3 a4 a5 k
 have ih0 := spec_TreeGet.mono_l k
 unfold spec_TreeGet.f
 have m0 := @spec_MapAll.mono
 have m1 := @spec_MapGet.mono
 have m2 := @spec_TreeOk.mono
 have m3 := @spec_l2Kid.mono
 have m4 := @spec_l3Pending.mono
 exact zm_
def spec_TreeGet.T5 : Bool × List (List Nat × List Nat) := (true, [([], []), ([0], [0]), ([], []), ([], []), ([2, 3], [2, 3]), ([1, 4], [1, 4]), ([5], [5]), ([6, 4, 0, 1, 2, 3, 4, 5, 6], [6])])
def spec_TreeGet.B5 : List Nat := [0, 1, 0, 0, 12, 31, 63, 127]
theorem spec_TreeGet.tab5 : rtab .any (opsOf Try.f34 5) = spec_TreeGet.T5 := by kernel_rfl
theorem spec_TreeGet.bits5 : waitsOk spec_TreeGet.T5.2 spec_TreeGet.B5 = true := by kernel_rfl
set_option maxHeartbeats 8000000 in
set_option maxRecDepth 100000 in
theorem spec_TreeGet.calls (k : Nat) (a0_0 : Bool) (P0_1_ : Nat → Prop) (A0_1 : Option Addr) (c0_1 : Nat) (l0_1 : List (S92)) (P0_2_ : Nat → Prop) (A0_2 : Option Addr) (c0_2 : Nat) (l0_2 : List Int) (P0_3_ : Nat → Prop) (A0_3 : Option Addr) (c0_3 : Nat) (l0_3 : List (S34)) (P0_4_ : Nat → Prop) (A0_4 : Option Addr) (c0_4 : Nat) (l0_4 : List (S72)) (a1 : Int) (r1 : Int) (r2 : Bool) (w : World) (hs0_1 : Kd.V k92 92 w w.heap.size (fun k_ => P0_1_ k_) (.slice A0_1 l0_1.length c0_1) l0_1) (hs0_2 : Kd.V (Kd.int .i64) 3 w w.heap.size (fun k_ => P0_2_ k_) (.slice A0_2 l0_2.length c0_2) l0_2) (hs0_3 : Kd.V k34 34 w w.heap.size (fun k_ => P0_3_ k_) (.slice A0_3 l0_3.length c0_3) l0_3) (hs0_4 : Kd.V k72 72 w w.heap.size (fun k_ => P0_4_ k_) (.slice A0_4 l0_4.length c0_4) l0_4) (h : spec_TreeGet.f k a0_0 l0_1 l0_2 l0_3 l0_4 a1 = some (r1, r2)) :
  Calls Try.prog 34 #[.agg #[.bool a0_0, .slice A0_1 l0_1.length c0_1, .slice A0_2 l0_2.length c0_2, .slice A0_3 l0_3.length c0_3, .slice A0_4 l0_4.length c0_4], .int .i64 a1] w fun e w' => e = .returned (.tuple #[.int .i64 r1, .bool r2]) ∧ Below w.heap.size w w' := by
 have hu34 := Try.underlying34
 have hu92 := Try.underlying92
 have HO0_1 := q_ (show Kd.V k92 92 w w.heap.size (fun k_ => ((P0_1_ k_ ∨ P0_2_ k_ ∨ P0_3_ k_ ∨ P0_4_ k_) ∨ w.heap.size ≤ k_)) (.slice A0_1 l0_1.length c0_1) l0_1 from Kd.V_mono hs0_1 (fun k_ hk => .inl (.inl hk)))
 have HO0_2 := q_ (show Kd.V (Kd.int .i64) 3 w w.heap.size (fun k_ => ((P0_1_ k_ ∨ P0_2_ k_ ∨ P0_3_ k_ ∨ P0_4_ k_) ∨ w.heap.size ≤ k_)) (.slice A0_2 l0_2.length c0_2) l0_2 from Kd.V_mono hs0_2 (fun k_ hk => .inl (.inr (.inl hk))))
 have HO0_3 := q_ (show Kd.V k34 34 w w.heap.size (fun k_ => ((P0_1_ k_ ∨ P0_2_ k_ ∨ P0_3_ k_ ∨ P0_4_ k_) ∨ w.heap.size ≤ k_)) (.slice A0_3 l0_3.length c0_3) l0_3 from Kd.V_mono hs0_3 (fun k_ hk => .inl (.inr (.inr (.inl hk)))))
 have HO0_4 := q_ (show Kd.V k72 72 w w.heap.size (fun k_ => ((P0_1_ k_ ∨ P0_2_ k_ ∨ P0_3_ k_ ∨ P0_4_ k_) ∨ w.heap.size ≤ k_)) (.slice A0_4 l0_4.length c0_4) l0_4 from Kd.V_mono hs0_4 (fun k_ hk => .inl (.inr (.inr (.inr hk)))))
 have HB := q_ (Below.refl w.heap.size w)
 have H := h; clear h
 unfold spec_TreeGet.f at H
 replace H := bi_ H; obtain ⟨t310, A3, H⟩ := H
 have HC4 := q_ H
 clear H
 go_enter Try.func34, Try.ntmps34
 go_upto_if 12 with (first | ((with_reducible refine gate_dst (N := 2) rfl ?_); refine box_event ?hg (N := 2) ?hd (cs := #[.bool a0_0, .slice A0_1 l0_1.length c0_1, .slice A0_2 l0_2.length c0_2, .slice A0_3 l0_3.length c0_3, .slice A0_4 l0_4.length c0_4]) (t := 34) ?hr ?_; (case hd => rfl); (case hg => rfl); (case hr => exact z104_); intro gb309 hg w5 hbox hb; replace HO0_1 := q_ (Kd.V_below (Kd.V_elderB z50_ gb309 (Nat.le_of_eq hg.symm)) hb); replace HO0_2 := q_ (Kd.V_below (Kd.V_elderB z51_ gb309 (Nat.le_of_eq hg.symm)) hb); replace HO0_3 := q_ (Kd.V_below (Kd.V_elderB z52_ gb309 (Nat.le_of_eq hg.symm)) hb); replace HO0_4 := q_ (Kd.V_below (Kd.V_elderB z53_ gb309 (Nat.le_of_eq hg.symm)) hb); have BK309 := q_ (hbox); have GW309 := ge_ hg; have GE309 := ge_ hg; replace HB := hb_ hb; clear hb hbox hg; obtain ⟨hz_, hz_, hz_, hz_, hz_, hz_, hz_, hz_, hz_, hz_⟩ := cs5_ BK309.out) | ((with_reducible refine gate_callee (f := 20) rfl ?_); refine goesL_ (some 11) rfl rfl Try.func20 (by kernel_rfl) rfl #[.agg #[.bool a0_0, .slice A0_1 l0_1.length c0_1, .slice A0_2 l0_2.length c0_2, .slice A0_3 l0_3.length c0_3, .slice A0_4 l0_4.length c0_4]] rfl z0_ ?_; (with_reducible refine (spec_TreeOk.calls k a0_0 _ _ l0_1 _ _ l0_2 _ _ l0_3 _ _ l0_4 t310 _ ?side1 ?side2 ?side3 ?side4 ?side5 ?side6 ?side7 ?side8 A3.out).mono ?_); (case side1 => repeat (first | exact (Kd.V_reads' HO0_1.out).2.2 | (with_reducible refine Kd.C_alloc ?_ _) | (with_reducible refine Kd.C_drewN ?_ _) | (with_reducible refine Kd.C_drew ?_))); (case side2 => exact (Kd.V_reads' HO0_1.out).2.1); (case side3 => repeat (first | exact (Kd.V_reads' HO0_2.out).2.2 | (with_reducible refine Kd.C_alloc ?_ _) | (with_reducible refine Kd.C_drewN ?_ _) | (with_reducible refine Kd.C_drew ?_))); (case side4 => exact (Kd.V_reads' HO0_2.out).2.1); (case side5 => repeat (first | exact (Kd.V_reads' HO0_3.out).2.2 | (with_reducible refine Kd.C_alloc ?_ _) | (with_reducible refine Kd.C_drewN ?_ _) | (with_reducible refine Kd.C_drew ?_))); (case side6 => exact (Kd.V_reads' HO0_3.out).2.1); (case side7 => repeat (first | exact (Kd.V_reads' HO0_4.out).2.2 | (with_reducible refine Kd.C_alloc ?_ _) | (with_reducible refine Kd.C_drewN ?_ _) | (with_reducible refine Kd.C_drew ?_))); (case side8 => exact (Kd.V_reads' HO0_4.out).2.1); rintro e w7 ⟨rfl, hb⟩; refine ⟨_, rfl, ?_⟩; replace HO0_1 := q_ (Kd.V_below z50_ hb); replace HO0_2 := q_ (Kd.V_below z51_ hb); replace HO0_3 := q_ (Kd.V_below z52_ hb); replace HO0_4 := q_ (Kd.V_below z53_ hb); replace BK309 := rb_ BK309 hb; replace HB := hb_ hb; (try clear hb); (try clear hb2); (try clear hk); (try clear hi)))
 (try simp only [Act.put, List.setIfInBounds_toArray, List.set_cons_zero, List.set_cons_succ])
 have H := HC4.out
 clear HC4
 replace H := kb_ H; rcases H with ⟨rfl, H⟩ | ⟨rfl, H⟩
 ·have H' := q_ H
  clear H
  obtain ⟨hz_, hz_, hz_, hz_, hz_, hz_, hz_, hz_, hz_, hz_⟩ := cs5_ BK309.out
  go_wp2_with (first | ((with_reducible refine gate_dst (N := 6) rfl ?_); refine box_event ?hg (N := 6) ?hd (cs := #[.bool false, .slice none 0 0, .slice none 0 0, .slice none 0 0, .slice none 0 0]) (t := 34) ?hr ?_; (case hd => rfl); (case hg => rfl); (case hr => exact z104_); intro gb311 hg w10 hbox hb; replace HO0_1 := q_ (Kd.V_below (Kd.V_elderB z50_ gb311 (Nat.le_of_eq hg.symm)) hb); replace HO0_2 := q_ (Kd.V_below (Kd.V_elderB z51_ gb311 (Nat.le_of_eq hg.symm)) hb); replace HO0_3 := q_ (Kd.V_below (Kd.V_elderB z52_ gb311 (Nat.le_of_eq hg.symm)) hb); replace HO0_4 := q_ (Kd.V_below (Kd.V_elderB z53_ gb311 (Nat.le_of_eq hg.symm)) hb); have BK311 := q_ (hbox); have GW311 := ge_ hg; have GE311 := ge_ hg; replace HB := hb_ hb; have NB309_311 := nl_ hg BK309; have NB311_309 := nr_ hg BK309; replace BK309 := rb_ BK309 hb; clear hb hbox hg; have hnb11 := NB311_309.out; have hnc11 := NB309_311.out; obtain ⟨hz_, hz_, hz_, hz_, hz_, hz_, hz_, hz_, hz_, hz_⟩ := cs5_ BK311.out))
  (try simp only [Act.put, List.setIfInBounds_toArray, List.set_cons_zero, List.set_cons_succ])
  go_loopg [] k (fun kq w' => ∃ (x312000_1 : Bool) (x312001_1 : List (S92)) (x312002_1 : List Int) (x312003_1 : List (S34)) (x312004_1 : List (S72)) (u312001 : Value) (u312002 : Value) (u312003 : Value) (u312004 : Value), Aside0 (spec_TreeGet.l0 kq a1 a0_0 l0_1 l0_2 l0_3 l0_4 x312000_1 x312001_1 x312002_1 x312003_1 x312004_1 = some (r1, r2)) ∧ Aside0 (kq ≤ k) ∧ Aside0 (Kd.V k92 92 w' w.heap.size (fun k_ => ((P0_1_ k_ ∨ P0_2_ k_ ∨ P0_3_ k_ ∨ P0_4_ k_) ∨ w.heap.size ≤ k_) ∧ k_ ≠ gb309 ∧ k_ ≠ gb311) (.slice A0_1 l0_1.length c0_1) l0_1) ∧ Aside0 (Kd.V (Kd.int .i64) 3 w' w.heap.size (fun k_ => ((P0_1_ k_ ∨ P0_2_ k_ ∨ P0_3_ k_ ∨ P0_4_ k_) ∨ w.heap.size ≤ k_) ∧ k_ ≠ gb309 ∧ k_ ≠ gb311) (.slice A0_2 l0_2.length c0_2) l0_2) ∧ Aside0 (Kd.V k34 34 w' w.heap.size (fun k_ => ((P0_1_ k_ ∨ P0_2_ k_ ∨ P0_3_ k_ ∨ P0_4_ k_) ∨ w.heap.size ≤ k_) ∧ k_ ≠ gb309 ∧ k_ ≠ gb311) (.slice A0_3 l0_3.length c0_3) l0_3) ∧ Aside0 (Kd.V k72 72 w' w.heap.size (fun k_ => ((P0_1_ k_ ∨ P0_2_ k_ ∨ P0_3_ k_ ∨ P0_4_ k_) ∨ w.heap.size ≤ k_) ∧ k_ ≠ gb309 ∧ k_ ≠ gb311) (.slice A0_4 l0_4.length c0_4) l0_4) ∧ Aside0 (Kd.V k92 92 w' w.heap.size (fun k_ => ((P0_1_ k_ ∨ P0_2_ k_ ∨ P0_3_ k_ ∨ P0_4_ k_) ∨ w.heap.size ≤ k_) ∧ k_ ≠ gb309 ∧ k_ ≠ gb311) u312001 x312001_1) ∧ Aside0 (Kd.V (Kd.int .i64) 3 w' w.heap.size (fun k_ => ((P0_1_ k_ ∨ P0_2_ k_ ∨ P0_3_ k_ ∨ P0_4_ k_) ∨ w.heap.size ≤ k_) ∧ k_ ≠ gb309 ∧ k_ ≠ gb311) u312002 x312002_1) ∧ Aside0 (Kd.V k34 34 w' w.heap.size (fun k_ => ((P0_1_ k_ ∨ P0_2_ k_ ∨ P0_3_ k_ ∨ P0_4_ k_) ∨ w.heap.size ≤ k_) ∧ k_ ≠ gb309 ∧ k_ ≠ gb311) u312003 x312003_1) ∧ Aside0 (Kd.V k72 72 w' w.heap.size (fun k_ => ((P0_1_ k_ ∨ P0_2_ k_ ∨ P0_3_ k_ ∨ P0_4_ k_) ∨ w.heap.size ≤ k_) ∧ k_ ≠ gb309 ∧ k_ ≠ gb311) u312004 x312004_1) ∧ Aside0 (w'.heap[gb309]? = some (.cells #[.bool a0_0, (.slice A0_1 l0_1.length c0_1), (.slice A0_2 l0_2.length c0_2), (.slice A0_3 l0_3.length c0_3), (.slice A0_4 l0_4.length c0_4)] 34 (0, 0))) ∧ Aside0 (w'.heap[gb311]? = some (.cells #[.bool x312000_1, u312001, u312002, u312003, u312004] 34 (0, 0))) ∧ Aside0 (Below w.heap.size w w'))
  case atStart => exact ⟨(a0_0), (l0_1), (l0_2), (l0_3), (l0_4), (.slice A0_1 l0_1.length c0_1), (.slice A0_2 l0_2.length c0_2), (.slice A0_3 l0_3.length c0_3), (.slice A0_4 l0_4.length c0_4), H', ⟨Nat.le_refl _⟩, ⟨z22_⟩, ⟨z23_⟩, ⟨z24_⟩, ⟨z25_⟩, ⟨z22_⟩, ⟨z23_⟩, ⟨z24_⟩, ⟨z25_⟩, ⟨z8_⟩, ⟨by (with_reducible repeat (first | refine blk_drewN ?_ _ | refine blk_drew ?_ | refine blk_alloc ?_ _)); refine blk_put (cs := #[.bool a0_0, .slice A0_1 l0_1.length c0_1, .slice A0_2 l0_2.length c0_2, .slice A0_3 l0_3.length c0_3, .slice none 0 0]) ?_ 4 _ rfl; (with_reducible repeat (first | refine blk_drewN ?_ _ | refine blk_drew ?_ | refine blk_alloc ?_ _)); refine blk_put (cs := #[.bool a0_0, .slice A0_1 l0_1.length c0_1, .slice A0_2 l0_2.length c0_2, .slice none 0 0, .slice none 0 0]) ?_ 3 _ rfl; (with_reducible repeat (first | refine blk_drewN ?_ _ | refine blk_drew ?_ | refine blk_alloc ?_ _)); refine blk_put (cs := #[.bool a0_0, .slice A0_1 l0_1.length c0_1, .slice none 0 0, .slice none 0 0, .slice none 0 0]) ?_ 2 _ rfl; (with_reducible repeat (first | refine blk_drewN ?_ _ | refine blk_drew ?_ | refine blk_alloc ?_ _)); refine blk_put (cs := #[.bool a0_0, .slice none 0 0, .slice none 0 0, .slice none 0 0, .slice none 0 0]) ?_ 1 _ rfl; (with_reducible repeat (first | refine blk_drewN ?_ _ | refine blk_drew ?_ | refine blk_alloc ?_ _)); refine blk_put (cs := #[.bool false, .slice none 0 0, .slice none 0 0, .slice none 0 0, .slice none 0 0]) ?_ 0 _ rfl; (with_reducible repeat (first | refine blk_drewN ?_ _ | refine blk_drew ?_ | refine blk_alloc ?_ _)); exact BK311.out⟩, ⟨cb_⟩⟩
  case round =>
   clear H'
   try clear c1
   try clear c2
   try clear p2
   try clear c3
   try clear c8
   try clear c11
   repeat clear hz_
   obtain ⟨x312000_1, x312001_1, x312002_1, x312003_1, x312004_1, u312001, u312002, u312003, u312004, HA, HK1, HO_310001, HO_310002, HO_310003, HO_310004, HO_312001, HO_312002, HO_312003, HO_312004, BK309, BK311, HB⟩ := hrel
   obtain ⟨k1, rfl, H⟩ := rn_ (k := gk) HA (by rintro rfl; simp only [spec_TreeGet.l0])
   clear HA
   simp only [spec_TreeGet.l0] at H
   have HC13 := q_ H
   clear H
   have hnb14 := NB311_309.out
   have hnc14 := NB309_311.out
   obtain ⟨hz_, hz_, hz_, hz_, hz_, hz_, hz_, hz_, hz_, hz_⟩ := cs5_ BK311.out
   go_upto_if 16 with (fail)
   have H := HC13.out
   clear HC13
   replace H := kb_ H; rcases H with ⟨rfl, H⟩ | ⟨rfl, H⟩
   ·obtain ⟨y314, hy_⟩ : ∃ y_ : List (S92), y_ = (([] : List (S92))) := ⟨_, rfl⟩
    replace H : ((spec_MapGet.f k1 x312001_1 a1).bind fun bt317 => (if bt317.2 = true then (if y314.length < 8796093022208 then ((spec_l3Pending.f k1 a0_0 l0_1 l0_2 l0_3 l0_4 a1).bind fun t322 => ((spec_MapAll.f k1 (y314 ++ [(⟨a1, bt317.1⟩ : S92)]) t322).bind fun t325 => ((spec_MapGet.f k1 t325 a1).bind fun bt328 => (some (bt328.1, bt328.2))))) else (none)) else ((spec_l3Pending.f k1 a0_0 l0_1 l0_2 l0_3 l0_4 a1).bind fun t330 => ((spec_MapAll.f k1 y314 t330).bind fun t333 => ((spec_MapGet.f k1 t333 a1).bind fun bt336 => (some (bt336.1, bt336.2))))))) = some (r1, r2) := z3_
    have Ny314 := q_ hy_
    clear hy_
    replace H := bi_ H; obtain ⟨⟨t317, t318⟩, A17, H⟩ := H
    (try dsimp only at H)
    have HC18 := q_ H
    clear H
    go_upto_if 32 with (first | ((with_reducible refine gate_dst (N := 24) rfl ?_); refine Kd.R_lit k92 _ 92 ?hg (N := 24) ?hd (xs := ([] : List (S92))) (inner := []) (ok := fun _ => True) (okp := fun _ => True) ?hr ?hp (fun _ hk => hk) trivial (Below.refl _ _) (Nat.le_refl _) (by simp) ?_; (case hd => rfl); (case hg => rfl); (case hr => exact z104_); (case hp => exact z135_); intro v315 w19 ho20 hb hg_ hnew_; clear hg_ hnew_; (first | rw [← Ny314.out] at ho20 | (simp only [Int.reduceToNat] at ho20; rw [← Ny314.out] at ho20)); replace HO_310001 := q_ (Kd.V_elder' z30_ (Kd.R_base ho20) hb); replace HO_310002 := q_ (Kd.V_elder' z31_ (Kd.R_base ho20) hb); replace HO_310003 := q_ (Kd.V_elder' z32_ (Kd.R_base ho20) hb); replace HO_310004 := q_ (Kd.V_elder' z33_ (Kd.R_base ho20) hb); replace HO_312001 := q_ (Kd.V_elder' z34_ (Kd.R_base ho20) hb); replace HO_312002 := q_ (Kd.V_elder' z35_ (Kd.R_base ho20) hb); replace HO_312003 := q_ (Kd.V_elder' z36_ (Kd.R_base ho20) hb); replace HO_312004 := q_ (Kd.V_elder' z37_ (Kd.R_base ho20) hb); have HO316 := q_ (Kd.R_lower (Kd.R_newM (M := fun k_ => (w.heap.size ≤ k_)) ho20 (below_size cb_) (fun k_ h_ => h_)) (below_size cb_)); replace BK309 := rb_ BK309 hb; replace BK311 := rb_ BK311 hb; replace HB := hb_ hb; clear hb ho20; have hnb21 := NB311_309.out; have hnc21 := NB309_311.out; obtain ⟨hz_, hz_, hz_, hz_, hz_, hz_, hz_, hz_, hz_, hz_⟩ := cs5_ BK311.out; obtain ⟨Ao23, co23, eo23⟩ := Kd.V_slice HO_312001.out; subst eo23) | ((with_reducible refine gate_callee (f := 79) rfl ?_); refine goesL_ (some 29) rfl rfl Try.func79 (by kernel_rfl) rfl #[.slice Ao23 x312001_1.length co23, .int .i64 a1] rfl z0_ ?_; (with_reducible refine (spec_MapGet.calls k1 _ _ x312001_1 a1 t317 t318 _ ?side1 ?side2 A17.out).mono ?_); (case side1 => exact z127_); (case side2 => exact (Kd.V_reads' HO_312001.out).2.1); rintro e w' ⟨rfl, ⟨nd, rfl⟩⟩; refine ⟨_, rfl, ?_⟩))
    (try simp only [Act.put, List.setIfInBounds_toArray, List.set_cons_zero, List.set_cons_succ])
    have H := HC18.out
    clear HC18
    replace H := kb_ H; rcases H with ⟨rfl, H⟩ | ⟨rfl, H⟩
    ·replace H := kln_ H; obtain ⟨LMc25, H⟩ := H
     obtain ⟨y319, hy_⟩ : ∃ y_ : List (S92), y_ = (y314 ++ [(⟨a1, t317⟩ : S92)]) := ⟨_, rfl⟩
     replace H : ((spec_l3Pending.f k1 a0_0 l0_1 l0_2 l0_3 l0_4 a1).bind fun t322 => ((spec_MapAll.f k1 y319 t322).bind fun t325 => ((spec_MapGet.f k1 t325 a1).bind fun bt328 => (some (bt328.1, bt328.2))))) = some (r1, r2) := z3_
     have Ny319 := q_ hy_
     clear hy_
     replace H := bi_ H; obtain ⟨t322, A26, H⟩ := H
     replace H := bi_ H; obtain ⟨t325, A27, H⟩ := H
     replace H := bi_ H; obtain ⟨⟨t328, t329⟩, A28, H⟩ := H
     (try dsimp only at H)
     obtain ⟨rfl, rfl⟩ := s2_ H
     go_wp2_with (first | ((with_reducible refine gate_builtin (b := .append) (xs := #[.tmp 33, .tmp 37]) rfl ?_); at_builtin; refine Kd.R_append k92 (w0 := w) w.heap.size rfl (.tmp 33) (.tmp 37) 30 92 (.agg #[(.int .i64 0), (.int .i64 0)]) 16 rfl Try.underlying30 info92 rfl (by decide) (by omega) v315 y314 (⟨a1, t317⟩ : S92) [.int .i64 a1, .int .i64 t317] (fun k_ => (w.heap.size ≤ k_)) (fun _ => False) rfl rfl ?aP (fun _ hk => hk.elim) ?aF ?aO ?aB ?aS ?aL ?_; (case aP => exact k92_mkM _ _ _ (⟨a1, t317⟩ : S92)); (case aB => exact cb_); (case aF => exact (fun k_ hk => (Nat.le_trans (below_size cb_) hk))); (case aO => exact (by (with_reducible repeat (first | apply Kd.R_alloc | apply Kd.R_drewN | apply Kd.R_drew)); exact Kd.R_mono HO316.out (fun _ hk => hk.1))); (case aS => exact z133_); (case aL => have := LMc25.out; omega); intro v320 w29 ho hb hg hat; rw [← Ny319.out] at ho; replace HO_310001 := q_ (Kd.V_afterv (ok := (fun k_ => ((P0_1_ k_ ∨ P0_2_ k_ ∨ P0_3_ k_ ∨ P0_4_ k_) ∨ w.heap.size ≤ k_) ∧ k_ ≠ gb309 ∧ k_ ≠ gb311)) z30_ hg hat); replace HO_310002 := q_ (Kd.V_afterv (ok := (fun k_ => ((P0_1_ k_ ∨ P0_2_ k_ ∨ P0_3_ k_ ∨ P0_4_ k_) ∨ w.heap.size ≤ k_) ∧ k_ ≠ gb309 ∧ k_ ≠ gb311)) z31_ hg hat); replace HO_310003 := q_ (Kd.V_afterv (ok := (fun k_ => ((P0_1_ k_ ∨ P0_2_ k_ ∨ P0_3_ k_ ∨ P0_4_ k_) ∨ w.heap.size ≤ k_) ∧ k_ ≠ gb309 ∧ k_ ≠ gb311)) z32_ hg hat); replace HO_310004 := q_ (Kd.V_afterv (ok := (fun k_ => ((P0_1_ k_ ∨ P0_2_ k_ ∨ P0_3_ k_ ∨ P0_4_ k_) ∨ w.heap.size ≤ k_) ∧ k_ ≠ gb309 ∧ k_ ≠ gb311)) z33_ hg hat); replace HO_312001 := q_ (Kd.V_afterv (ok := (fun k_ => ((P0_1_ k_ ∨ P0_2_ k_ ∨ P0_3_ k_ ∨ P0_4_ k_) ∨ w.heap.size ≤ k_) ∧ k_ ≠ gb309 ∧ k_ ≠ gb311)) z34_ hg hat); replace HO_312002 := q_ (Kd.V_afterv (ok := (fun k_ => ((P0_1_ k_ ∨ P0_2_ k_ ∨ P0_3_ k_ ∨ P0_4_ k_) ∨ w.heap.size ≤ k_) ∧ k_ ≠ gb309 ∧ k_ ≠ gb311)) z35_ hg hat); replace HO_312003 := q_ (Kd.V_afterv (ok := (fun k_ => ((P0_1_ k_ ∨ P0_2_ k_ ∨ P0_3_ k_ ∨ P0_4_ k_) ∨ w.heap.size ≤ k_) ∧ k_ ≠ gb309 ∧ k_ ≠ gb311)) z36_ hg hat); replace HO_312004 := q_ (Kd.V_afterv (ok := (fun k_ => ((P0_1_ k_ ∨ P0_2_ k_ ∨ P0_3_ k_ ∨ P0_4_ k_) ∨ w.heap.size ≤ k_) ∧ k_ ≠ gb309 ∧ k_ ≠ gb311)) z37_ hg hat); replace BK309 := q_ (blk_grown (g := gb309) (o := .cells #[.bool a0_0, .slice A0_1 l0_1.length c0_1, .slice A0_2 l0_2.length c0_2, .slice A0_3 l0_3.length c0_3, .slice A0_4 l0_4.length c0_4] 34 (0, 0)) (by (with_reducible repeat (first | refine blk_drewN ?_ _ | refine blk_drew ?_ | refine blk_alloc ?_ _)); exact BK309.out) hg (Kd.R_ne HO316.out BK309.out (by decide))); replace BK311 := q_ (blk_grown (g := gb311) (o := .cells #[.bool true, .slice Ao23 x312001_1.length co23, u312002, u312003, u312004] 34 (0, 0)) (by (with_reducible repeat (first | refine blk_drewN ?_ _ | refine blk_drew ?_ | refine blk_alloc ?_ _)); exact BK311.out) hg (Kd.R_ne HO316.out BK311.out (by decide))); replace HB := q_ (hb); have HO321 := q_ (ho); clear HO316; clear ho hb hg hat; have hnb30 := NB309_311.out; have hnc30 := NB311_309.out; obtain ⟨hz_, hz_, hz_, hz_, hz_, hz_, hz_, hz_, hz_, hz_⟩ := cs5_ BK309.out) | ((with_reducible refine gate_callee (f := 71) rfl ?_); refine goesL_ (some 43) rfl rfl Try.func71 (by kernel_rfl) rfl #[.agg #[.bool a0_0, .slice A0_1 l0_1.length c0_1, .slice A0_2 l0_2.length c0_2, .slice A0_3 l0_3.length c0_3, .slice A0_4 l0_4.length c0_4], .int .i64 a1] rfl z0_ ?_; (with_reducible refine (spec_l3Pending.calls k1 a0_0 _ _ l0_1 _ _ l0_2 _ _ l0_3 _ _ l0_4 a1 t322 _ ?side1 ?side2 ?side3 ?side4 ?side5 ?side6 ?side7 ?side8 A26.out).mono ?_); (case side1 => exact z128_); (case side2 => exact (Kd.V_reads' HO_310001.out).2.1); (case side3 => exact z129_); (case side4 => exact (Kd.V_reads' HO_310002.out).2.1); (case side5 => exact z130_); (case side6 => exact (Kd.V_reads' HO_310003.out).2.1); (case side7 => exact z131_); (case side8 => exact (Kd.V_reads' HO_310004.out).2.1); rintro e w32 ⟨v323, rfl, ho0, hb⟩; refine ⟨_, rfl, ?_⟩; replace HO_310001 := q_ (Kd.V_elder' z30_ (Kd.R_base ho0) hb); replace HO_310002 := q_ (Kd.V_elder' z31_ (Kd.R_base ho0) hb); replace HO_310003 := q_ (Kd.V_elder' z32_ (Kd.R_base ho0) hb); replace HO_310004 := q_ (Kd.V_elder' z33_ (Kd.R_base ho0) hb); replace HO_312001 := q_ (Kd.V_elder' z34_ (Kd.R_base ho0) hb); replace HO_312002 := q_ (Kd.V_elder' z35_ (Kd.R_base ho0) hb); replace HO_312003 := q_ (Kd.V_elder' z36_ (Kd.R_base ho0) hb); replace HO_312004 := q_ (Kd.V_elder' z37_ (Kd.R_base ho0) hb); replace HO321 := q_ (Kd.R_below z76_ hb); have HO324 := q_ (Kd.R_lower (Kd.R_newM (M := fun k_ => (w.heap.size ≤ k_)) ho0 (below_size cb_) (fun k_ h_ => h_)) (below_size cb_)); replace BK309 := rb_ BK309 hb; replace BK311 := rb_ BK311 hb; replace HB := hb_ hb; (try clear hb); (try clear hb2); (try clear hk); (try clear hi); (try clear ho0); obtain ⟨Ao33, co33, eo33⟩ := Kd.R_slice HO321.out; subst eo33; obtain ⟨Ao34, co34, eo34⟩ := Kd.R_slice HO324.out; subst eo34) | ((with_reducible refine gate_callee (f := 80) rfl ?_); refine goesL_ (some 44) rfl rfl Try.func80 (by kernel_rfl) rfl #[.slice Ao33 y319.length co33, .slice Ao34 t322.length co34] rfl z0_ ?_; (with_reducible refine (spec_MapAll.calls k1 _ _ y319 _ _ t322 t325 _ ?side1 ?side2 ?side3 ?side4 A27.out).mono ?_); (case side1 => repeat (first | exact (Kd.R_reads' HO321.out).2.2 | (with_reducible refine Kd.C_alloc ?_ _) | (with_reducible refine Kd.C_drewN ?_ _) | (with_reducible refine Kd.C_drew ?_))); (case side2 => exact (Kd.R_reads' HO321.out).2.1); (case side3 => repeat (first | exact (Kd.R_reads' HO324.out).2.2 | (with_reducible refine Kd.C_alloc ?_ _) | (with_reducible refine Kd.C_drewN ?_ _) | (with_reducible refine Kd.C_drew ?_))); (case side4 => exact (Kd.R_reads' HO324.out).2.1); rintro e w35 ⟨v326, rfl, ho0, hb⟩; refine ⟨_, rfl, ?_⟩; replace HO_310001 := q_ (Kd.V_elder' z30_ (Kd.R_base ho0) hb); replace HO_310002 := q_ (Kd.V_elder' z31_ (Kd.R_base ho0) hb); replace HO_310003 := q_ (Kd.V_elder' z32_ (Kd.R_base ho0) hb); replace HO_310004 := q_ (Kd.V_elder' z33_ (Kd.R_base ho0) hb); replace HO_312001 := q_ (Kd.V_elder' z34_ (Kd.R_base ho0) hb); replace HO_312002 := q_ (Kd.V_elder' z35_ (Kd.R_base ho0) hb); replace HO_312003 := q_ (Kd.V_elder' z36_ (Kd.R_base ho0) hb); replace HO_312004 := q_ (Kd.V_elder' z37_ (Kd.R_base ho0) hb); replace HO324 := q_ (Kd.R_below (by (with_reducible repeat (first | apply Kd.R_alloc | apply Kd.R_drewN | apply Kd.R_drew)); exact HO324.out) hb); have HO327 := q_ (Kd.R_lower (Kd.R_new' (Kd.R_newM (M := fun k_ => (w.heap.size ≤ k_)) ho0 (below_size cb_) (fun k_ h_ => h_)) (Kd.R_lt z76_)) (below_size cb_)); replace HO321 := q_ (Kd.R_elder' z76_ (Kd.R_base ho0) hb); replace BK309 := rb_ BK309 hb; replace BK311 := rb_ BK311 hb; replace HB := hb_ hb; (try clear hb); (try clear hb2); (try clear hk); (try clear hi); (try clear ho0); obtain ⟨Ao36, co36, eo36⟩ := Kd.R_slice HO327.out; subst eo36) | ((with_reducible refine gate_callee (f := 79) rfl ?_); refine goesL_ (some 46) rfl rfl Try.func79 (by kernel_rfl) rfl #[.slice Ao36 t325.length co36, .int .i64 a1] rfl z0_ ?_; (with_reducible refine (spec_MapGet.calls k1 _ _ t325 a1 t328 t329 _ ?side1 ?side2 A28.out).mono ?_); (case side1 => repeat (first | exact (Kd.R_reads' HO327.out).2.2 | (with_reducible refine Kd.C_alloc ?_ _) | (with_reducible refine Kd.C_drewN ?_ _) | (with_reducible refine Kd.C_drew ?_))); (case side2 => exact (Kd.R_reads' HO327.out).2.1); rintro e w' ⟨rfl, ⟨nd, rfl⟩⟩; refine ⟨_, rfl, ?_⟩))
     go_ret2
     exact ⟨z1_, cb_⟩
    ·replace H := bi_ H; obtain ⟨t330, A37, H⟩ := H
     replace H := bi_ H; obtain ⟨t333, A38, H⟩ := H
     replace H := bi_ H; obtain ⟨⟨t336, t337⟩, A39, H⟩ := H
     (try dsimp only at H)
     obtain ⟨rfl, rfl⟩ := s2_ H
     have hnb40 := NB309_311.out
     have hnc40 := NB311_309.out
     obtain ⟨hz_, hz_, hz_, hz_, hz_, hz_, hz_, hz_, hz_, hz_⟩ := cs5_ BK309.out
     go_wp2_with (first | ((with_reducible refine gate_callee (f := 71) rfl ?_); refine goesL_ (some 43) rfl rfl Try.func71 (by kernel_rfl) rfl #[.agg #[.bool a0_0, .slice A0_1 l0_1.length c0_1, .slice A0_2 l0_2.length c0_2, .slice A0_3 l0_3.length c0_3, .slice A0_4 l0_4.length c0_4], .int .i64 a1] rfl z0_ ?_; (with_reducible refine (spec_l3Pending.calls k1 a0_0 _ _ l0_1 _ _ l0_2 _ _ l0_3 _ _ l0_4 a1 t330 _ ?side1 ?side2 ?side3 ?side4 ?side5 ?side6 ?side7 ?side8 A37.out).mono ?_); (case side1 => exact z128_); (case side2 => exact (Kd.V_reads' HO_310001.out).2.1); (case side3 => exact z129_); (case side4 => exact (Kd.V_reads' HO_310002.out).2.1); (case side5 => exact z130_); (case side6 => exact (Kd.V_reads' HO_310003.out).2.1); (case side7 => exact z131_); (case side8 => exact (Kd.V_reads' HO_310004.out).2.1); rintro e w42 ⟨v331, rfl, ho0, hb⟩; refine ⟨_, rfl, ?_⟩; replace HO_310001 := q_ (Kd.V_elder' z30_ (Kd.R_base ho0) hb); replace HO_310002 := q_ (Kd.V_elder' z31_ (Kd.R_base ho0) hb); replace HO_310003 := q_ (Kd.V_elder' z32_ (Kd.R_base ho0) hb); replace HO_310004 := q_ (Kd.V_elder' z33_ (Kd.R_base ho0) hb); replace HO_312001 := q_ (Kd.V_elder' z34_ (Kd.R_base ho0) hb); replace HO_312002 := q_ (Kd.V_elder' z35_ (Kd.R_base ho0) hb); replace HO_312003 := q_ (Kd.V_elder' z36_ (Kd.R_base ho0) hb); replace HO_312004 := q_ (Kd.V_elder' z37_ (Kd.R_base ho0) hb); replace HO316 := q_ (Kd.R_below z77_ hb); have HO332 := q_ (Kd.R_lower (Kd.R_newM (M := fun k_ => (w.heap.size ≤ k_)) ho0 (below_size cb_) (fun k_ h_ => h_)) (below_size cb_)); replace BK309 := rb_ BK309 hb; replace BK311 := rb_ BK311 hb; replace HB := hb_ hb; (try clear hb); (try clear hb2); (try clear hk); (try clear hi); (try clear ho0); obtain ⟨Ao43, co43, eo43⟩ := Kd.R_slice HO316.out; subst eo43; obtain ⟨Ao44, co44, eo44⟩ := Kd.R_slice HO332.out; subst eo44) | ((with_reducible refine gate_callee (f := 80) rfl ?_); refine goesL_ (some 44) rfl rfl Try.func80 (by kernel_rfl) rfl #[.slice Ao43 y314.length co43, .slice Ao44 t330.length co44] rfl z0_ ?_; (with_reducible refine (spec_MapAll.calls k1 _ _ y314 _ _ t330 t333 _ ?side1 ?side2 ?side3 ?side4 A38.out).mono ?_); (case side1 => repeat (first | exact (Kd.R_reads' HO316.out).2.2 | (with_reducible refine Kd.C_alloc ?_ _) | (with_reducible refine Kd.C_drewN ?_ _) | (with_reducible refine Kd.C_drew ?_))); (case side2 => exact (Kd.R_reads' HO316.out).2.1); (case side3 => repeat (first | exact (Kd.R_reads' HO332.out).2.2 | (with_reducible refine Kd.C_alloc ?_ _) | (with_reducible refine Kd.C_drewN ?_ _) | (with_reducible refine Kd.C_drew ?_))); (case side4 => exact (Kd.R_reads' HO332.out).2.1); rintro e w45 ⟨v334, rfl, ho0, hb⟩; refine ⟨_, rfl, ?_⟩; replace HO_310001 := q_ (Kd.V_elder' z30_ (Kd.R_base ho0) hb); replace HO_310002 := q_ (Kd.V_elder' z31_ (Kd.R_base ho0) hb); replace HO_310003 := q_ (Kd.V_elder' z32_ (Kd.R_base ho0) hb); replace HO_310004 := q_ (Kd.V_elder' z33_ (Kd.R_base ho0) hb); replace HO_312001 := q_ (Kd.V_elder' z34_ (Kd.R_base ho0) hb); replace HO_312002 := q_ (Kd.V_elder' z35_ (Kd.R_base ho0) hb); replace HO_312003 := q_ (Kd.V_elder' z36_ (Kd.R_base ho0) hb); replace HO_312004 := q_ (Kd.V_elder' z37_ (Kd.R_base ho0) hb); replace HO332 := q_ (Kd.R_below (by (with_reducible repeat (first | apply Kd.R_alloc | apply Kd.R_drewN | apply Kd.R_drew)); exact HO332.out) hb); have HO335 := q_ (Kd.R_lower (Kd.R_new' (Kd.R_newM (M := fun k_ => (w.heap.size ≤ k_)) ho0 (below_size cb_) (fun k_ h_ => h_)) (Kd.R_lt z77_)) (below_size cb_)); replace HO316 := q_ (Kd.R_elder' z77_ (Kd.R_base ho0) hb); replace BK309 := rb_ BK309 hb; replace BK311 := rb_ BK311 hb; replace HB := hb_ hb; (try clear hb); (try clear hb2); (try clear hk); (try clear hi); (try clear ho0); obtain ⟨Ao46, co46, eo46⟩ := Kd.R_slice HO335.out; subst eo46) | ((with_reducible refine gate_callee (f := 79) rfl ?_); refine goesL_ (some 46) rfl rfl Try.func79 (by kernel_rfl) rfl #[.slice Ao46 t333.length co46, .int .i64 a1] rfl z0_ ?_; (with_reducible refine (spec_MapGet.calls k1 _ _ t333 a1 t336 t337 _ ?side1 ?side2 A39.out).mono ?_); (case side1 => repeat (first | exact (Kd.R_reads' HO335.out).2.2 | (with_reducible refine Kd.C_alloc ?_ _) | (with_reducible refine Kd.C_drewN ?_ _) | (with_reducible refine Kd.C_drew ?_))); (case side2 => exact (Kd.R_reads' HO335.out).2.1); rintro e w' ⟨rfl, ⟨nd, rfl⟩⟩; refine ⟨_, rfl, ?_⟩))
     go_ret2
     exact ⟨z1_, cb_⟩
   ·replace H := bi_ H; obtain ⟨t312, A47, H⟩ := H
    replace H := kdn_ H; obtain ⟨c48b0, H⟩ := H
    (first | rw [c48b0] | rw [c48b1] | (simp only [i64_w, i32_w]; first | rw [c48b0] | rw [c48b1]) | rw [c48b2] | skip)
    replace H := kdn_ H; obtain ⟨c49b0, H⟩ := H
    have H' := q_ H
    clear H
    try go_wp2
    replace HO_310001 := q_ (Kd.V_drew HO_310001.out)
    replace HO_310002 := q_ (Kd.V_drew HO_310002.out)
    replace HO_310003 := q_ (Kd.V_drew HO_310003.out)
    replace HO_310004 := q_ (Kd.V_drew HO_310004.out)
    replace HO_312001 := q_ (Kd.V_drew HO_312001.out)
    replace HO_312002 := q_ (Kd.V_drew HO_312002.out)
    replace HO_312003 := q_ (Kd.V_drew HO_312003.out)
    replace HO_312004 := q_ (Kd.V_drew HO_312004.out)
    replace BK309 := q_ (blk_drew BK309.out)
    replace BK311 := q_ (blk_drew BK311.out)
    replace HB := q_ (below_drew1 HB.out)
    obtain ⟨Ao51, co51, eo51⟩ := Kd.V_slice HO_312001.out
    (first | subst eo51 | (injection eo51 with f1_ f2_ f3_; have f4_ := f1_.symm; have f5_ := f3_.symm; clear f1_ f2_ f3_; subst f4_; subst f5_))
    obtain ⟨Ao52, co52, eo52⟩ := Kd.V_slice HO_312002.out
    (first | subst eo52 | (injection eo52 with f1_ f2_ f3_; have f4_ := f1_.symm; have f5_ := f3_.symm; clear f1_ f2_ f3_; subst f4_; subst f5_))
    obtain ⟨Ao53, co53, eo53⟩ := Kd.V_slice HO_312003.out
    (first | subst eo53 | (injection eo53 with f1_ f2_ f3_; have f4_ := f1_.symm; have f5_ := f3_.symm; clear f1_ f2_ f3_; subst f4_; subst f5_))
    obtain ⟨Ao54, co54, eo54⟩ := Kd.V_slice HO_312004.out
    (first | subst eo54 | (injection eo54 with f1_ f2_ f3_; have f4_ := f1_.symm; have f5_ := f3_.symm; clear f1_ f2_ f3_; subst f4_; subst f5_))
    have p313 : 0 ≤ (t312 : Int) := of_decide_eq_true z2_
    have q313 : t312 < (x312003_1.length : Int) := of_decide_eq_true z2_
    obtain ⟨ad313, A313_1, c313_1, A313_2, c313_2, A313_3, c313_3, A313_4, c313_4, e313, hx313_0, hx313_1, hx313_2, hx313_3, hx313_4, hl313_1, hi313_1, hl313_2, hi313_2, hl313_3, hi313_3, hl313_4, hi313_4⟩ := at_T34 (Kd.V_reads' HO_312003.out).2.2 t312 p313 q313
    cases e313
    obtain ⟨ce313, hce313, hMe313, hcc313⟩ := Kd.V_get HO_312003.out z34 t312 p313 (by first | exact q313 | exact of_decide_eq_true z2_ | (have e_ := (Kd.V_reads' HO_312003.out).1; omega))
    obtain ⟨ua313_1, uc313_1, ua313_2, uc313_2, ua313_3, uc313_3, ua313_4, uc313_4, rfl, ul313_1, ge313_1, ul313_2, ge313_2, ul313_3, ge313_3, ul313_4, ge313_4⟩ := k34_openF hMe313
    have hv313_1 := hcc313 1 _ rfl
    rw [add_field _ _ 1 (by omega)] at hv313_1
    replace hv313_1 := Option.some.inj (hv313_1.symm.trans hx313_1)
    injection hv313_1 with hva_ hvn_ hvc_
    rw [hva_] at ge313_1
    rw [hvc_] at ul313_1
    have HL313_1 := q_ (show Kd.V k92 92 _ w.heap.size _ _ ((rd_T34 x312003_1 t312).f1) from Kd.V_mk ul313_1 ge313_1)
    clear hva_ hvn_ hvc_ ge313_1 ul313_1
    have hv313_2 := hcc313 2 _ rfl
    rw [add_field _ _ 2 (by omega)] at hv313_2
    replace hv313_2 := Option.some.inj (hv313_2.symm.trans hx313_2)
    injection hv313_2 with hva_ hvn_ hvc_
    rw [hva_] at ge313_2
    rw [hvc_] at ul313_2
    have HL313_2 := q_ (show Kd.V (Kd.int .i64) 3 _ w.heap.size _ _ ((rd_T34 x312003_1 t312).f2) from Kd.V_mk ul313_2 ge313_2)
    clear hva_ hvn_ hvc_ ge313_2 ul313_2
    have hv313_3 := hcc313 3 _ rfl
    rw [add_field _ _ 3 (by omega)] at hv313_3
    replace hv313_3 := Option.some.inj (hv313_3.symm.trans hx313_3)
    injection hv313_3 with hva_ hvn_ hvc_
    rw [hva_] at ge313_3
    rw [hvc_] at ul313_3
    have HL313_3 := q_ (show Kd.V k34 34 _ w.heap.size _ _ ((rd_T34 x312003_1 t312).f3) from Kd.V_mk ul313_3 ge313_3)
    clear hva_ hvn_ hvc_ ge313_3 ul313_3
    have hv313_4 := hcc313 4 _ rfl
    rw [add_field _ _ 4 (by omega)] at hv313_4
    replace hv313_4 := Option.some.inj (hv313_4.symm.trans hx313_4)
    injection hv313_4 with hva_ hvn_ hvc_
    rw [hva_] at ge313_4
    rw [hvc_] at ul313_4
    have HL313_4 := q_ (show Kd.V k72 72 _ w.heap.size _ _ ((rd_T34 x312003_1 t312).f4) from Kd.V_mk ul313_4 ge313_4)
    clear hva_ hvn_ hvc_ ge313_4 ul313_4
    clear hcc313 hce313
    have HR313_1 := q_ hi313_1
    have HC313_1 := q_ hl313_1
    clear hi313_1 hl313_1
    have HR313_2 := q_ hi313_2
    have HC313_2 := q_ hl313_2
    clear hi313_2 hl313_2
    have HR313_3 := q_ hi313_3
    have HC313_3 := q_ hl313_3
    clear hi313_3 hl313_3
    have HR313_4 := q_ hi313_4
    have HC313_4 := q_ hl313_4
    clear hi313_4 hl313_4
    replace p313 := eq_true p313
    replace q313 := eq_true q313
    refine start_ (n := 8) (S := fun w' => w'.cell? ⟨gb311, 0, none⟩ = some (.bool false) ∧ w'.cell? ⟨gb311, 1, none⟩ = some (.slice Ao51 x312001_1.length co51) ∧ w'.cell? ⟨gb311, 2, none⟩ = some (.slice Ao52 x312002_1.length co52) ∧ w'.cell? ⟨gb311, 3, none⟩ = some (.slice (some ad313) x312003_1.length co53) ∧ w'.cell? ⟨gb311, 4, none⟩ = some (.slice Ao54 x312004_1.length co54) ∧ w'.cell? (ad313.add ((t312).toNat * 5)) = some (.bool ((rd_T34 x312003_1 t312).f0)) ∧ w'.cell? ⟨(ad313.add ((t312).toNat * 5)).block, (ad313.add ((t312).toNat * 5)).off + 1, none⟩ = some (.slice A313_1 ((rd_T34 x312003_1 t312).f1).length c313_1) ∧ w'.cell? ⟨(ad313.add ((t312).toNat * 5)).block, (ad313.add ((t312).toNat * 5)).off + 2, none⟩ = some (.slice A313_2 ((rd_T34 x312003_1 t312).f2).length c313_2) ∧ w'.cell? ⟨(ad313.add ((t312).toNat * 5)).block, (ad313.add ((t312).toNat * 5)).off + 3, none⟩ = some (.slice A313_3 ((rd_T34 x312003_1 t312).f3).length c313_3) ∧ w'.cell? ⟨(ad313.add ((t312).toNat * 5)).block, (ad313.add ((t312).toNat * 5)).off + 4, none⟩ = some (.slice A313_4 ((rd_T34 x312003_1 t312).f4).length c313_4)) (ds := [7]) (tf 0 8) (by kernel_rfl) rfl rfl ⟨(blk_cell BK311.out 0).trans rfl, (blk_cell BK311.out 1).trans rfl, (blk_cell BK311.out 2).trans rfl, (blk_cell BK311.out 3).trans rfl, (blk_cell BK311.out 4).trans rfl, hx313_0, hx313_1, hx313_2, hx313_3, hx313_4⟩ (fun hHeld => ?_); refine with_tabW spec_TreeGet.tab5 spec_TreeGet.bits5 (fun HT_ HW_ => ?_)
    generalize wr.drew = w50 at HO_310001 HO_310002 HO_310003 HO_310004 HO_312001 HO_312002 HO_312003 HO_312004 BK309 BK311 HB HL313_1 HL313_2 HL313_3 HL313_4 HR313_1 HR313_2 HR313_3 HR313_4 hx313_0 hx313_1 hx313_2 hx313_3 hx313_4 hHeld ⊢
    refine p1_ 0 (some 17) (tf 1 7) HT_.out ?_
    refine p1_ 3 (some 20) #[true, false, false, true, false, false, false, false] HT_.out ?_
    refine take_ (i := 1) (N := some 18) (v := ?_) (a' := ?_) #[true, true, false, true, false, false, false, false] rfl rfl (take_ofW HT_.out HW_.out (by kernel_rfl)) (fun _ _ _ h => h) (Or.inl ⟨by rfl, ?_⟩) hHeld ?_ ?_
    rotate_left
    ·rintro w' ⟨s0, s1, s2, s3, s4, s5, s6, s7, s8, s9⟩
     go_simp
     with_reducible rfl
    rotate_left
    ·simp only [Act.put, List.setIfInBounds_toArray, List.set_cons_zero, List.set_cons_succ, i64_w, i32_w]
     rfl
    refine take_ (i := 2) (N := some 19) (v := ?_) (a' := ?_) (tf 4 4) rfl rfl (take_ofW HT_.out HW_.out (by kernel_rfl)) (fun _ _ _ h => h) (Or.inl ⟨by rfl, ?_⟩) hHeld ?_ ?_
    rotate_left
    ·rintro w' ⟨s0, s1, s2, s3, s4, s5, s6, s7, s8, s9⟩
     go_simp
     with_reducible rfl
    rotate_left
    ·simp only [Act.put, List.setIfInBounds_toArray, List.set_cons_zero, List.set_cons_succ, i64_w, i32_w]
     rfl
    refine one_ (i := 4) (N := some 21) (tf 5 3) rfl rfl (one_of HT_.out (by kernel_rfl)) (by decide) (fun K hK => ?_)
    refine goes_ Try.func67 (by kernel_rfl) rfl #[.agg #[.bool false, .slice Ao51 x312001_1.length co51, .slice Ao52 x312002_1.length co52, .slice (some ad313) x312003_1.length co53, .slice Ao54 x312004_1.length co54], .int .i64 a1] (by rfl) rfl rfl z0_ ?_
    with_reducible refine (spec_l2Kid.calls k1 false _ _ x312001_1 _ _ x312002_1 _ _ x312003_1 _ _ x312004_1 a1 t312 _ ?side1 ?side2 ?side3 ?side4 ?side5 ?side6 ?side7 ?side8 A47.out).mono ?_
    (case side1 => exact z127_)
    (case side2 => exact (Kd.V_reads' HO_312001.out).2.1)
    (case side3 => repeat (first | exact (Kd.V_reads' HO_312002.out).2.2 | (with_reducible refine Kd.C_alloc ?_ _) | (with_reducible refine Kd.C_drewN ?_ _) | (with_reducible refine Kd.C_drew ?_)))
    (case side4 => exact (Kd.V_reads' HO_312002.out).2.1)
    (case side5 => repeat (first | exact (Kd.V_reads' HO_312003.out).2.2 | (with_reducible refine Kd.C_alloc ?_ _) | (with_reducible refine Kd.C_drewN ?_ _) | (with_reducible refine Kd.C_drew ?_)))
    (case side6 => exact (Kd.V_reads' HO_312003.out).2.1)
    (case side7 => repeat (first | exact (Kd.V_reads' HO_312004.out).2.2 | (with_reducible refine Kd.C_alloc ?_ _) | (with_reducible refine Kd.C_drewN ?_ _) | (with_reducible refine Kd.C_drew ?_)))
    (case side8 => exact (Kd.V_reads' HO_312004.out).2.1)
    rintro e w55 ⟨rfl, hb⟩
    replace HL313_1 := q_ (Kd.V_below HL313_1.out hb)
    replace HL313_2 := q_ (Kd.V_below HL313_2.out hb)
    replace HL313_3 := q_ (Kd.V_below HL313_3.out hb)
    replace HL313_4 := q_ (Kd.V_below HL313_4.out hb)
    have HS5_ := (hb.cell (World.block_lt_of_cell? _ _ (hHeld.2.2.2.2.2.1))).trans (hHeld.2.2.2.2.2.1)
    have HS6_ := (hb.cell (World.block_lt_of_cell? _ _ (hHeld.2.2.2.2.2.2.1))).trans (hHeld.2.2.2.2.2.2.1)
    have HS7_ := (hb.cell (World.block_lt_of_cell? _ _ (hHeld.2.2.2.2.2.2.2.1))).trans (hHeld.2.2.2.2.2.2.2.1)
    have HS8_ := (hb.cell (World.block_lt_of_cell? _ _ (hHeld.2.2.2.2.2.2.2.2.1))).trans (hHeld.2.2.2.2.2.2.2.2.1)
    have HS9_ := (hb.cell (World.block_lt_of_cell? _ _ (hHeld.2.2.2.2.2.2.2.2.2))).trans (hHeld.2.2.2.2.2.2.2.2.2)
    refine ⟨_, rfl, ?_⟩
    replace HO_310001 := q_ (Kd.V_below z30_ hb)
    replace HO_310002 := q_ (Kd.V_below z31_ hb)
    replace HO_310003 := q_ (Kd.V_below z32_ hb)
    replace HO_310004 := q_ (Kd.V_below z33_ hb)
    replace HO_312001 := q_ (Kd.V_below z34_ hb)
    replace HO_312002 := q_ (Kd.V_below z35_ hb)
    replace HO_312003 := q_ (Kd.V_below z36_ hb)
    replace HO_312004 := q_ (Kd.V_below z37_ hb)
    replace BK309 := rb_ BK309 hb
    replace BK311 := rb_ BK311 hb
    replace HB := hb_ hb
    (try clear hb)
    (try clear hb2)
    (try clear hk)
    (try clear hi)
    refine hK.out _ _ ⟨(blk_cell BK311.out 0).trans rfl, (blk_cell BK311.out 1).trans rfl, (blk_cell BK311.out 2).trans rfl, (blk_cell BK311.out 3).trans rfl, (blk_cell BK311.out 4).trans rfl, HS5_, HS6_, HS7_, HS8_, HS9_⟩ (fun hHeld => ?_)
    clear hK K
    refine norm_ (a' := ?_) ?_ ?_
    rotate_left
    ·show Act.put _ (some 21) _ = _
     simp only [Act.put, List.setIfInBounds_toArray, List.set_cons_zero, List.set_cons_succ, i64_w, i32_w]
     rfl
    refine p1_ 5 (some 22) (tf 6 2) HT_.out ?_
    refine take_ (i := 6) (N := some 23) (v := ?_) (a' := ?_) (tf 7 1) rfl rfl (take_ofW HT_.out HW_.out (by kernel_rfl)) (fun _ _ _ h => h) (Or.inl ⟨by rfl, ?_⟩) hHeld ?_ ?_
    rotate_left
    ·rintro w' ⟨s0, s1, s2, s3, s4, s5, s6, s7, s8, s9⟩
     go_simp
     with_reducible rfl
    rotate_left
    ·simp only [Act.put, List.setIfInBounds_toArray, List.set_cons_zero, List.set_cons_succ, i64_w, i32_w]
     rfl
    refine last_ (i := 7) (N := none) (tf 8 0) rfl rfl (one_of HT_.out (by kernel_rfl)) (by decide) (fun K hK => ?_)
    have hs56 : w55.cell? ⟨gb311, 0, none⟩ = some (.bool false) := (blk_cell BK311.out 0).trans rfl
    have hfs56 := blk_frozen BK311.out 0
    have hns56_0 := NB309_311.out
    have hms56_0 := NB311_309.out
    have hs57 : w55.cell? ⟨gb311, 1, none⟩ = some (.slice Ao51 x312001_1.length co51) := (blk_cell BK311.out 1).trans rfl
    have hfs57 := blk_frozen BK311.out 1
    have hns57_0 := NB309_311.out
    have hms57_0 := NB311_309.out
    have hs58 : w55.cell? ⟨gb311, 2, none⟩ = some (.slice Ao52 x312002_1.length co52) := (blk_cell BK311.out 2).trans rfl
    have hfs58 := blk_frozen BK311.out 2
    have hns58_0 := NB309_311.out
    have hms58_0 := NB311_309.out
    have hs59 : w55.cell? ⟨gb311, 3, none⟩ = some (.slice (some ad313) x312003_1.length co53) := (blk_cell BK311.out 3).trans rfl
    have hfs59 := blk_frozen BK311.out 3
    have hns59_0 := NB309_311.out
    have hms59_0 := NB311_309.out
    have hs60 : w55.cell? ⟨gb311, 4, none⟩ = some (.slice Ao54 x312004_1.length co54) := (blk_cell BK311.out 4).trans rfl
    have hfs60 := blk_frozen BK311.out 4
    have hns60_0 := NB309_311.out
    have hms60_0 := NB311_309.out
    refine skip_ (w1 := ?_) (by rfl) rfl ?_ ?_
    rotate_left
    ·go_simp
     rfl
    refine hK.out _ _ ?_
    clear hK K
    refine done_ (done_of HT_.out (by kernel_rfl)) ?_
    try go_wp2
    go_roundg k1
    case measure => have := HK1.out; omega
    case rel => exact ⟨((rd_T34 x312003_1 t312).f0), ((rd_T34 x312003_1 t312).f1), ((rd_T34 x312003_1 t312).f2), ((rd_T34 x312003_1 t312).f3), ((rd_T34 x312003_1 t312).f4), (.slice A313_1 ((rd_T34 x312003_1 t312).f1).length c313_1), (.slice A313_2 ((rd_T34 x312003_1 t312).f2).length c313_2), (.slice A313_3 ((rd_T34 x312003_1 t312).f3).length c313_3), (.slice A313_4 ((rd_T34 x312003_1 t312).f4).length c313_4), H', ⟨z29_⟩, ⟨by (with_reducible repeat (first | apply Kd.V_alloc | apply Kd.V_drewN | apply Kd.V_drew)); exact Kd.V_mono (Kd.V_far (p := ⟨gb311, 4, none⟩) (Kd.V_far (p := ⟨gb311, 3, none⟩) (Kd.V_far (p := ⟨gb311, 2, none⟩) (Kd.V_far (p := ⟨gb311, 1, none⟩) (Kd.V_far (p := ⟨gb311, 0, none⟩) (Kd.V_mono HO_310001.out (fun k_ hk => (⟨hk, hk.2.2⟩ : _ ∧ k_ ≠ gb311))) (fun _ hk => hk.2) (.bool ((rd_T34 x312003_1 t312).f0))) (fun _ hk => hk.2) (.slice A313_1 ((rd_T34 x312003_1 t312).f1).length c313_1)) (fun _ hk => hk.2) (.slice A313_2 ((rd_T34 x312003_1 t312).f2).length c313_2)) (fun _ hk => hk.2) (.slice A313_3 ((rd_T34 x312003_1 t312).f3).length c313_3)) (fun _ hk => hk.2) (.slice A313_4 ((rd_T34 x312003_1 t312).f4).length c313_4)) (fun _ hk => ⟨hk.1.1, ⟨hk.1.2.1, hk.1.2.2⟩⟩)⟩, ⟨by (with_reducible repeat (first | apply Kd.V_alloc | apply Kd.V_drewN | apply Kd.V_drew)); exact Kd.V_mono (Kd.V_far (p := ⟨gb311, 4, none⟩) (Kd.V_far (p := ⟨gb311, 3, none⟩) (Kd.V_far (p := ⟨gb311, 2, none⟩) (Kd.V_far (p := ⟨gb311, 1, none⟩) (Kd.V_far (p := ⟨gb311, 0, none⟩) (Kd.V_mono HO_310002.out (fun k_ hk => (⟨hk, hk.2.2⟩ : _ ∧ k_ ≠ gb311))) (fun _ hk => hk.2) (.bool ((rd_T34 x312003_1 t312).f0))) (fun _ hk => hk.2) (.slice A313_1 ((rd_T34 x312003_1 t312).f1).length c313_1)) (fun _ hk => hk.2) (.slice A313_2 ((rd_T34 x312003_1 t312).f2).length c313_2)) (fun _ hk => hk.2) (.slice A313_3 ((rd_T34 x312003_1 t312).f3).length c313_3)) (fun _ hk => hk.2) (.slice A313_4 ((rd_T34 x312003_1 t312).f4).length c313_4)) (fun _ hk => ⟨hk.1.1, ⟨hk.1.2.1, hk.1.2.2⟩⟩)⟩, ⟨by (with_reducible repeat (first | apply Kd.V_alloc | apply Kd.V_drewN | apply Kd.V_drew)); exact Kd.V_mono (Kd.V_far (p := ⟨gb311, 4, none⟩) (Kd.V_far (p := ⟨gb311, 3, none⟩) (Kd.V_far (p := ⟨gb311, 2, none⟩) (Kd.V_far (p := ⟨gb311, 1, none⟩) (Kd.V_far (p := ⟨gb311, 0, none⟩) (Kd.V_mono HO_310003.out (fun k_ hk => (⟨hk, hk.2.2⟩ : _ ∧ k_ ≠ gb311))) (fun _ hk => hk.2) (.bool ((rd_T34 x312003_1 t312).f0))) (fun _ hk => hk.2) (.slice A313_1 ((rd_T34 x312003_1 t312).f1).length c313_1)) (fun _ hk => hk.2) (.slice A313_2 ((rd_T34 x312003_1 t312).f2).length c313_2)) (fun _ hk => hk.2) (.slice A313_3 ((rd_T34 x312003_1 t312).f3).length c313_3)) (fun _ hk => hk.2) (.slice A313_4 ((rd_T34 x312003_1 t312).f4).length c313_4)) (fun _ hk => ⟨hk.1.1, ⟨hk.1.2.1, hk.1.2.2⟩⟩)⟩, ⟨by (with_reducible repeat (first | apply Kd.V_alloc | apply Kd.V_drewN | apply Kd.V_drew)); exact Kd.V_mono (Kd.V_far (p := ⟨gb311, 4, none⟩) (Kd.V_far (p := ⟨gb311, 3, none⟩) (Kd.V_far (p := ⟨gb311, 2, none⟩) (Kd.V_far (p := ⟨gb311, 1, none⟩) (Kd.V_far (p := ⟨gb311, 0, none⟩) (Kd.V_mono HO_310004.out (fun k_ hk => (⟨hk, hk.2.2⟩ : _ ∧ k_ ≠ gb311))) (fun _ hk => hk.2) (.bool ((rd_T34 x312003_1 t312).f0))) (fun _ hk => hk.2) (.slice A313_1 ((rd_T34 x312003_1 t312).f1).length c313_1)) (fun _ hk => hk.2) (.slice A313_2 ((rd_T34 x312003_1 t312).f2).length c313_2)) (fun _ hk => hk.2) (.slice A313_3 ((rd_T34 x312003_1 t312).f3).length c313_3)) (fun _ hk => hk.2) (.slice A313_4 ((rd_T34 x312003_1 t312).f4).length c313_4)) (fun _ hk => ⟨hk.1.1, ⟨hk.1.2.1, hk.1.2.2⟩⟩)⟩, ⟨by (with_reducible repeat (first | apply Kd.V_alloc | apply Kd.V_drewN | apply Kd.V_drew)); exact Kd.V_mono (Kd.V_far (p := ⟨gb311, 4, none⟩) (Kd.V_far (p := ⟨gb311, 3, none⟩) (Kd.V_far (p := ⟨gb311, 2, none⟩) (Kd.V_far (p := ⟨gb311, 1, none⟩) (Kd.V_far (p := ⟨gb311, 0, none⟩) (Kd.V_mono HL313_1.out (fun k_ hk => (⟨hk, hk.2.2⟩ : _ ∧ k_ ≠ gb311))) (fun _ hk => hk.2) (.bool ((rd_T34 x312003_1 t312).f0))) (fun _ hk => hk.2) (.slice A313_1 ((rd_T34 x312003_1 t312).f1).length c313_1)) (fun _ hk => hk.2) (.slice A313_2 ((rd_T34 x312003_1 t312).f2).length c313_2)) (fun _ hk => hk.2) (.slice A313_3 ((rd_T34 x312003_1 t312).f3).length c313_3)) (fun _ hk => hk.2) (.slice A313_4 ((rd_T34 x312003_1 t312).f4).length c313_4)) (fun _ hk => ⟨hk.1.1, ⟨hk.1.2.1, hk.1.2.2⟩⟩)⟩, ⟨by (with_reducible repeat (first | apply Kd.V_alloc | apply Kd.V_drewN | apply Kd.V_drew)); exact Kd.V_mono (Kd.V_far (p := ⟨gb311, 4, none⟩) (Kd.V_far (p := ⟨gb311, 3, none⟩) (Kd.V_far (p := ⟨gb311, 2, none⟩) (Kd.V_far (p := ⟨gb311, 1, none⟩) (Kd.V_far (p := ⟨gb311, 0, none⟩) (Kd.V_mono HL313_2.out (fun k_ hk => (⟨hk, hk.2.2⟩ : _ ∧ k_ ≠ gb311))) (fun _ hk => hk.2) (.bool ((rd_T34 x312003_1 t312).f0))) (fun _ hk => hk.2) (.slice A313_1 ((rd_T34 x312003_1 t312).f1).length c313_1)) (fun _ hk => hk.2) (.slice A313_2 ((rd_T34 x312003_1 t312).f2).length c313_2)) (fun _ hk => hk.2) (.slice A313_3 ((rd_T34 x312003_1 t312).f3).length c313_3)) (fun _ hk => hk.2) (.slice A313_4 ((rd_T34 x312003_1 t312).f4).length c313_4)) (fun _ hk => ⟨hk.1.1, ⟨hk.1.2.1, hk.1.2.2⟩⟩)⟩, ⟨by (with_reducible repeat (first | apply Kd.V_alloc | apply Kd.V_drewN | apply Kd.V_drew)); exact Kd.V_mono (Kd.V_far (p := ⟨gb311, 4, none⟩) (Kd.V_far (p := ⟨gb311, 3, none⟩) (Kd.V_far (p := ⟨gb311, 2, none⟩) (Kd.V_far (p := ⟨gb311, 1, none⟩) (Kd.V_far (p := ⟨gb311, 0, none⟩) (Kd.V_mono HL313_3.out (fun k_ hk => (⟨hk, hk.2.2⟩ : _ ∧ k_ ≠ gb311))) (fun _ hk => hk.2) (.bool ((rd_T34 x312003_1 t312).f0))) (fun _ hk => hk.2) (.slice A313_1 ((rd_T34 x312003_1 t312).f1).length c313_1)) (fun _ hk => hk.2) (.slice A313_2 ((rd_T34 x312003_1 t312).f2).length c313_2)) (fun _ hk => hk.2) (.slice A313_3 ((rd_T34 x312003_1 t312).f3).length c313_3)) (fun _ hk => hk.2) (.slice A313_4 ((rd_T34 x312003_1 t312).f4).length c313_4)) (fun _ hk => ⟨hk.1.1, ⟨hk.1.2.1, hk.1.2.2⟩⟩)⟩, ⟨by (with_reducible repeat (first | apply Kd.V_alloc | apply Kd.V_drewN | apply Kd.V_drew)); exact Kd.V_mono (Kd.V_far (p := ⟨gb311, 4, none⟩) (Kd.V_far (p := ⟨gb311, 3, none⟩) (Kd.V_far (p := ⟨gb311, 2, none⟩) (Kd.V_far (p := ⟨gb311, 1, none⟩) (Kd.V_far (p := ⟨gb311, 0, none⟩) (Kd.V_mono HL313_4.out (fun k_ hk => (⟨hk, hk.2.2⟩ : _ ∧ k_ ≠ gb311))) (fun _ hk => hk.2) (.bool ((rd_T34 x312003_1 t312).f0))) (fun _ hk => hk.2) (.slice A313_1 ((rd_T34 x312003_1 t312).f1).length c313_1)) (fun _ hk => hk.2) (.slice A313_2 ((rd_T34 x312003_1 t312).f2).length c313_2)) (fun _ hk => hk.2) (.slice A313_3 ((rd_T34 x312003_1 t312).f3).length c313_3)) (fun _ hk => hk.2) (.slice A313_4 ((rd_T34 x312003_1 t312).f4).length c313_4)) (fun _ hk => ⟨hk.1.1, ⟨hk.1.2.1, hk.1.2.2⟩⟩)⟩, ⟨z8_⟩, ⟨by (with_reducible repeat (first | refine blk_drewN ?_ _ | refine blk_drew ?_ | refine blk_alloc ?_ _)); refine blk_put (cs := #[.bool ((rd_T34 x312003_1 t312).f0), .slice A313_1 ((rd_T34 x312003_1 t312).f1).length c313_1, .slice A313_2 ((rd_T34 x312003_1 t312).f2).length c313_2, .slice A313_3 ((rd_T34 x312003_1 t312).f3).length c313_3, .slice Ao54 x312004_1.length co54]) ?_ 4 _ rfl; (with_reducible repeat (first | refine blk_drewN ?_ _ | refine blk_drew ?_ | refine blk_alloc ?_ _)); refine blk_put (cs := #[.bool ((rd_T34 x312003_1 t312).f0), .slice A313_1 ((rd_T34 x312003_1 t312).f1).length c313_1, .slice A313_2 ((rd_T34 x312003_1 t312).f2).length c313_2, .slice (some ad313) x312003_1.length co53, .slice Ao54 x312004_1.length co54]) ?_ 3 _ rfl; (with_reducible repeat (first | refine blk_drewN ?_ _ | refine blk_drew ?_ | refine blk_alloc ?_ _)); refine blk_put (cs := #[.bool ((rd_T34 x312003_1 t312).f0), .slice A313_1 ((rd_T34 x312003_1 t312).f1).length c313_1, .slice Ao52 x312002_1.length co52, .slice (some ad313) x312003_1.length co53, .slice Ao54 x312004_1.length co54]) ?_ 2 _ rfl; (with_reducible repeat (first | refine blk_drewN ?_ _ | refine blk_drew ?_ | refine blk_alloc ?_ _)); refine blk_put (cs := #[.bool ((rd_T34 x312003_1 t312).f0), .slice Ao51 x312001_1.length co51, .slice Ao52 x312002_1.length co52, .slice (some ad313) x312003_1.length co53, .slice Ao54 x312004_1.length co54]) ?_ 1 _ rfl; (with_reducible repeat (first | refine blk_drewN ?_ _ | refine blk_drew ?_ | refine blk_alloc ?_ _)); refine blk_put (cs := #[.bool false, .slice Ao51 x312001_1.length co51, .slice Ao52 x312002_1.length co52, .slice (some ad313) x312003_1.length co53, .slice Ao54 x312004_1.length co54]) ?_ 0 _ rfl; (with_reducible repeat (first | refine blk_drewN ?_ _ | refine blk_drew ?_ | refine blk_alloc ?_ _)); exact BK311.out⟩, ⟨cb_⟩⟩
 ·obtain ⟨rfl, rfl⟩ := s2_ H
  go_wp2
  go_ret2
  exact ⟨z1_, cb_⟩

/-! ### impl_within: function 102 -/
def impl_within.f (a0 : Int) (a1 : Int) (a2 : Int) : Option (Bool) := if a0 ≥ a1 then (some (decide (a0 ≤ a2))) else (some false)
set_option maxHeartbeats 8000000 in
set_option maxRecDepth 100000 in
theorem impl_within.calls (a0 : Int) (a1 : Int) (a2 : Int) (r : Bool) (w : World) (h : impl_within.f a0 a1 a2 = some r) :
  Calls Try.prog 102 #[.int .i64 a0, .int .i64 a1, .int .i64 a2] w fun e w' => e = .returned (.bool r) ∧ Drawn0 w w' := by
 have H := h; clear h
 unfold impl_within.f at H
 by_cases c4 : a0 ≥ a1
 ·rw [if_pos c4] at H
  have c4b0 : decide (a1 ≤ a0) = true := decide_eq_true c4
  clear c4
  obtain rfl := si_ H
  go_enter Try.func102, Try.ntmps102
  go_wp2
  go_ret
  exact ⟨z4_, z7_⟩
 ·rw [if_neg c4] at H
  have c4b0 : decide (a1 ≤ a0) = false := decide_eq_false c4
  clear c4
  obtain rfl := si_ H
  go_enter Try.func102, Try.ntmps102
  go_wp2
  go_ret
  exact ⟨z4_, z7_⟩

/-! ### impl_isKey: function 93 -/
def impl_isKey.f (a0 : Int) : Option (Bool) := (impl_within.f a0 0 999).bind fun t338 => (some t338)
set_option maxHeartbeats 8000000 in
set_option maxRecDepth 100000 in
theorem impl_isKey.calls (a0 : Int) (r : Bool) (w : World) (h : impl_isKey.f a0 = some r) :
  Calls Try.prog 93 #[.int .i64 a0] w fun e w' => e = .returned (.bool r) ∧ Drawn0 w w' := by
 have H := h; clear h
 unfold impl_isKey.f at H
 replace H := bi_ H; obtain ⟨t338, A2, H⟩ := H
 obtain rfl := si_ H
 go_enter Try.func93, Try.ntmps93
 go_wp2_with (first | ((with_reducible refine gate_callee (f := 102) rfl ?_); refine goesL_ (some 4) rfl rfl Try.func102 (by kernel_rfl) rfl #[.int .i64 a0, .int .i64 0, .int .i64 999] rfl z0_ ?_; (with_reducible refine (impl_within.calls a0 0 999 t338 _ A2.out).mono ?_); rintro e w' ⟨rfl, ⟨nd, rfl⟩⟩; refine ⟨_, rfl, ?_⟩))
 go_ret
 exact ⟨z4_, z7_⟩

/-! ### impl_isNum: function 94 -/
def impl_isNum.f (a0 : Int) : Option (Bool) := (impl_within.f a0 (-1000000000) 1000000000).bind fun t339 => (some t339)
set_option maxHeartbeats 8000000 in
set_option maxRecDepth 100000 in
theorem impl_isNum.calls (a0 : Int) (r : Bool) (w : World) (h : impl_isNum.f a0 = some r) :
  Calls Try.prog 94 #[.int .i64 a0] w fun e w' => e = .returned (.bool r) ∧ Drawn0 w w' := by
 have H := h; clear h
 unfold impl_isNum.f at H
 replace H := bi_ H; obtain ⟨t339, A2, H⟩ := H
 obtain rfl := si_ H
 go_enter Try.func94, Try.ntmps94
 go_wp2_with (first | ((with_reducible refine gate_callee (f := 102) rfl ?_); refine goesL_ (some 4) rfl rfl Try.func102 (by kernel_rfl) rfl #[.int .i64 a0, .int .i64 (-1000000000), .int .i64 1000000000] rfl z0_ ?_; (with_reducible refine (impl_within.calls a0 (-1000000000) 1000000000 t339 _ A2.out).mono ?_); rintro e w' ⟨rfl, ⟨nd, rfl⟩⟩; refine ⟨_, rfl, ?_⟩))
 go_ret
 exact ⟨z4_, z7_⟩

/-! ### impl_MapOk: function 51 -/
def impl_MapOk.l0 : Nat → List (S92) → List (S92) → Int → Int → Option (Bool)
 | 0, _, _, _, _ => none
 | k + 1, x0, x5, x6, x7 => if x7 < x6 then (if 0 ≤ x7 then (if x7 < (x5.length : Int) then ((impl_isKey.f ((rd_T92 x5 x7).f0)).bind fun t342 => (if t342 = true then ((impl_isNum.f ((rd_T92 x5 x7).f1)).bind fun t343 => (if t343 = true then (if x7 > 0 then (if 0 ≤ (wrap64 (x7 - 1)) then (if (wrap64 (x7 - 1)) < (x0.length : Int) then (if ((rd_T92 x0 (wrap64 (x7 - 1))).f0) ≥ ((rd_T92 x5 x7).f0) then (some false) else (impl_MapOk.l0 k x0 x5 x6 (wrap64 (x7 + 1)))) else (none)) else (none)) else (impl_MapOk.l0 k x0 x5 x6 (wrap64 (x7 + 1)))) else (some false))) else (some false))) else (none)) else (none)) else (some true)
def impl_MapOk.f (k : Nat) (l0 : List (S92)) : Option (Bool) := impl_MapOk.l0 k l0 l0 (l0.length : Int) 0
theorem impl_MapOk.mono_l : ∀ k, (∀ y0 y1 y2 y3, LeO (impl_MapOk.l0 k y0 y1 y2 y3) (impl_MapOk.l0 (k + 1) y0 y1 y2 y3))
 | 0 => fun _ _ _ _ r h => by simp [impl_MapOk.l0] at h
 | k + 1 => by
  have ih0 := impl_MapOk.mono_l k
  ·intro y0 y1 y2 y3
   unfold impl_MapOk.l0
   exact zm_
theorem impl_MapOk.mono : ∀ a0 k, LeO (impl_MapOk.f k a0) (impl_MapOk.f (k + 1) a0) := by
 intro a0 k
 have ih0 := impl_MapOk.mono_l k
 unfold impl_MapOk.f
 exact zm_
set_option maxHeartbeats 8000000 in
set_option maxRecDepth 100000 in
theorem impl_MapOk.calls (k : Nat) (A0 : Option Addr) (c0 : Nat) (l0 : List (S92)) (r : Bool) (w : World) (hr0 : Kd.C k92 w A0 l0.length l0) (hc0 : l0.length ≤ c0) (h : impl_MapOk.f k l0 = some r) :
  Calls Try.prog 51 #[.slice A0 l0.length c0] w fun e w' => e = .returned (.bool r) ∧ Below w.heap.size w w' := by
 have hu92 := Try.underlying92
 have HR0 := q_ hr0
 have HC0 := q_ hc0
 clear hr0 hc0
 have HB := q_ (Below.refl w.heap.size w)
 have H := h; clear h
 unfold impl_MapOk.f at H
 have H' := q_ H
 clear H
 go_enter Try.func51, Try.ntmps51
 go_wp2
 repeat (go_quiet (fail); try go_wp2)
 go_loopg [7] k (fun kq v7 w' => ∃ (x7_1 : Int), v7 = .int .i64 x7_1 ∧ Aside0 (impl_MapOk.l0 kq l0 l0 (l0.length : Int) x7_1 = some r) ∧ Aside0 (kq ≤ k) ∧ Aside0 (Below w.heap.size w w'))
 case atStart => exact ⟨(0), z4_, H', ⟨Nat.le_refl _⟩, ⟨cb_⟩⟩
 case round =>
  clear H'
  obtain ⟨x7_1, rfl, HA, HK1, HB⟩ := hrel
  obtain ⟨k1, rfl, H⟩ := rn_ (k := gk) HA (by rintro rfl; simp only [impl_MapOk.l0])
  clear HA
  simp only [impl_MapOk.l0] at H
  replace H := kd_ H; rcases H with ⟨c2b0, H⟩ | ⟨c2b0, H⟩
  ·replace H := kdn_ H; obtain ⟨c3b0, H⟩ := H
   replace H := kdn_ H; obtain ⟨c4b0, H⟩ := H
   replace H := bi_ H; obtain ⟨t342, A5, H⟩ := H
   replace H := kb_ H; rcases H with ⟨rfl, H⟩ | ⟨rfl, H⟩
   ·replace H := bi_ H; obtain ⟨t343, A7, H⟩ := H
    replace H := kb_ H; rcases H with ⟨rfl, H⟩ | ⟨rfl, H⟩
    ·replace H := kg_ H; rcases H with ⟨c9b0, H⟩ | ⟨c9b0, H⟩
     ·obtain ⟨ji10, hji10⟩ : ∃ j_ : Int, (wrap64 (x7_1 - 1)) = j_ := ⟨_, rfl⟩
      replace H : (if 0 ≤ (ji10) then (if (ji10) < (l0.length : Int) then (if ((rd_T92 l0 (ji10)).f0) ≥ ((rd_T92 l0 x7_1).f0) then (some false) else (impl_MapOk.l0 k1 l0 l0 (l0.length : Int) (wrap64 (x7_1 + 1)))) else (none)) else (none)) = some r := by first | (rw [hji10] at H; exact H) | (simp only [hji10] at H ⊢; exact H)
      (try rw [hji10] at A5)
      (try rw [hji10] at A7)
      have hji10w : (IntKind.i64.wrap (x7_1 - 1)) = ji10 := (i64_w _).trans hji10
      replace H := kdn_ H; obtain ⟨c11b0, H⟩ := H
      replace H := kdn_ H; obtain ⟨c12b0, H⟩ := H
      by_cases c13 : ((rd_T92 l0 (ji10)).f0) ≥ ((rd_T92 l0 x7_1).f0)
      ·rw [if_pos c13] at H
       have c13b0 : decide (((rd_T92 l0 x7_1).f0) ≤ ((rd_T92 l0 (ji10)).f0)) = true := decide_eq_true c13
       clear c13
       obtain rfl := si_ H
       have p340 : 0 ≤ (x7_1 : Int) := of_decide_eq_true z2_
       have q340 : x7_1 < (l0.length : Int) := of_decide_eq_true z2_
       obtain ⟨ad340, e340, hx340_0, hx340_1⟩ := at_T92 HR0.out x7_1 p340 q340
       cases e340
       replace hx340_0 := up_ HB hx340_0
       replace hx340_1 := up_ HB hx340_1
       replace p340 := eq_true p340
       replace q340 := eq_true q340
       go_wp2_with (first | ((with_reducible refine gate_dst (N := 4) rfl ?_); refine box_event ?hg (N := 4) ?hd (cs := #[.int .i64 0, .int .i64 0]) (t := 92) ?hr ?_; (case hd => rfl); (case hg => rfl); (case hr => exact z104_); intro gb341 hg w14 hbox hb; have BK341 := q_ (hbox); have GW341 := ge_ hg; have GE341 := ge_ hg; replace HB := hb_ hb; clear hb hbox hg; obtain ⟨hz_, hz_, hz_, hz_⟩ := cs2_ BK341.out) | (go_at_call 93; (with_reducible refine (impl_isKey.calls ((rd_T92 l0 x7_1).f0) true _ A5.out).mono ?_); rintro e w' ⟨rfl, ⟨nd, rfl⟩⟩; (try first | exact ⟨rfl, _, World.drewN_drewN _ _ _⟩ | exact ⟨rfl, _, Eq.trans (World.drewN_drewN _ _ _) (congrArg (World.drewN _) (Nat.add_assoc _ _ _))⟩)) | (go_at_call 94; (with_reducible refine (impl_isNum.calls ((rd_T92 l0 x7_1).f1) true _ A7.out).mono ?_); rintro e w' ⟨rfl, ⟨nd, rfl⟩⟩; (try first | exact ⟨rfl, _, World.drewN_drewN _ _ _⟩ | exact ⟨rfl, _, Eq.trans (World.drewN_drewN _ _ _) (congrArg (World.drewN _) (Nat.add_assoc _ _ _))⟩); have p344 : 0 ≤ ((ji10) : Int) := of_decide_eq_true z2_; have q344 : (ji10) < (l0.length : Int) := of_decide_eq_true z2_; obtain ⟨ad344, e344, hx344_0, hx344_1⟩ := at_T92 HR0.out (ji10) p344 q344; obtain rfl : ad340 = ad344 := z98_; have hn344_0 : ad340.block ≠ gb341 := Nat.ne_of_lt (Nat.lt_of_lt_of_le (by have := World.block_lt_of_cell? _ _ hx344_0; first | rwa [add_block] at this | exact this) GW341.out); have hn344_1 : ad340.block ≠ gb341 := Nat.ne_of_lt (Nat.lt_of_lt_of_le (by have := World.block_lt_of_cell? _ _ hx344_0; first | rwa [add_block] at this | exact this) GW341.out); replace hx344_0 := up_ HB hx344_0; replace hx344_1 := up_ HB hx344_1; replace hx344_0 := (cell_far (p := ⟨gb341, 0, none⟩) z13_ (.int .i64 ((rd_T92 l0 x7_1).f0))).trans hx344_0; replace hx344_1 := (cell_far (p := ⟨gb341, 0, none⟩) z13_ (.int .i64 ((rd_T92 l0 x7_1).f0))).trans hx344_1; replace hx344_0 := (cell_far (p := ⟨gb341, 1, none⟩) z14_ (.int .i64 ((rd_T92 l0 x7_1).f1))).trans hx344_0; replace hx344_1 := (cell_far (p := ⟨gb341, 1, none⟩) z14_ (.int .i64 ((rd_T92 l0 x7_1).f1))).trans hx344_1; (try have hy344_0 := fun (n_ : Nat) => (show ((((w14.drewN n_).setCell ⟨gb341, 0, none⟩ (.int .i64 ((rd_T92 l0 x7_1).f0))).setCell ⟨gb341, 1, none⟩ (.int .i64 ((rd_T92 l0 x7_1).f1)))).cell? _ = some _ from hx344_0)); (try have hy344_1 := fun (n_ : Nat) => (show ((((w14.drewN n_).setCell ⟨gb341, 0, none⟩ (.int .i64 ((rd_T92 l0 x7_1).f0))).setCell ⟨gb341, 1, none⟩ (.int .i64 ((rd_T92 l0 x7_1).f1)))).cell? _ = some _ from hx344_1)); clear hn344_0; clear hn344_1; replace p344 := eq_true p344; replace q344 := eq_true q344))
       repeat (go_quiet (first | ((with_reducible refine gate_dst (N := 4) rfl ?_); refine box_event ?hg (N := 4) ?hd (cs := #[.int .i64 0, .int .i64 0]) (t := 92) ?hr ?_; (case hd => rfl); (case hg => rfl); (case hr => exact z104_); intro gb341 hg w14 hbox hb; have BK341 := q_ (hbox); have GW341 := ge_ hg; have GE341 := ge_ hg; replace HB := hb_ hb; clear hb hbox hg; obtain ⟨hz_, hz_, hz_, hz_⟩ := cs2_ BK341.out) | (go_at_call 93; (with_reducible refine (impl_isKey.calls ((rd_T92 l0 x7_1).f0) true _ A5.out).mono ?_); rintro e w' ⟨rfl, ⟨nd, rfl⟩⟩; (try first | exact ⟨rfl, _, World.drewN_drewN _ _ _⟩ | exact ⟨rfl, _, Eq.trans (World.drewN_drewN _ _ _) (congrArg (World.drewN _) (Nat.add_assoc _ _ _))⟩)) | (go_at_call 94; (with_reducible refine (impl_isNum.calls ((rd_T92 l0 x7_1).f1) true _ A7.out).mono ?_); rintro e w' ⟨rfl, ⟨nd, rfl⟩⟩; (try first | exact ⟨rfl, _, World.drewN_drewN _ _ _⟩ | exact ⟨rfl, _, Eq.trans (World.drewN_drewN _ _ _) (congrArg (World.drewN _) (Nat.add_assoc _ _ _))⟩); have p344 : 0 ≤ ((ji10) : Int) := of_decide_eq_true z2_; have q344 : (ji10) < (l0.length : Int) := of_decide_eq_true z2_; obtain ⟨ad344, e344, hx344_0, hx344_1⟩ := at_T92 HR0.out (ji10) p344 q344; obtain rfl : ad340 = ad344 := z98_; have hn344_0 : ad340.block ≠ gb341 := Nat.ne_of_lt (Nat.lt_of_lt_of_le (by have := World.block_lt_of_cell? _ _ hx344_0; first | rwa [add_block] at this | exact this) GW341.out); have hn344_1 : ad340.block ≠ gb341 := Nat.ne_of_lt (Nat.lt_of_lt_of_le (by have := World.block_lt_of_cell? _ _ hx344_0; first | rwa [add_block] at this | exact this) GW341.out); replace hx344_0 := up_ HB hx344_0; replace hx344_1 := up_ HB hx344_1; replace hx344_0 := (cell_far (p := ⟨gb341, 0, none⟩) z13_ (.int .i64 ((rd_T92 l0 x7_1).f0))).trans hx344_0; replace hx344_1 := (cell_far (p := ⟨gb341, 0, none⟩) z13_ (.int .i64 ((rd_T92 l0 x7_1).f0))).trans hx344_1; replace hx344_0 := (cell_far (p := ⟨gb341, 1, none⟩) z14_ (.int .i64 ((rd_T92 l0 x7_1).f1))).trans hx344_0; replace hx344_1 := (cell_far (p := ⟨gb341, 1, none⟩) z14_ (.int .i64 ((rd_T92 l0 x7_1).f1))).trans hx344_1; (try have hy344_0 := fun (n_ : Nat) => (show ((((w14.drewN n_).setCell ⟨gb341, 0, none⟩ (.int .i64 ((rd_T92 l0 x7_1).f0))).setCell ⟨gb341, 1, none⟩ (.int .i64 ((rd_T92 l0 x7_1).f1)))).cell? _ = some _ from hx344_0)); (try have hy344_1 := fun (n_ : Nat) => (show ((((w14.drewN n_).setCell ⟨gb341, 0, none⟩ (.int .i64 ((rd_T92 l0 x7_1).f0))).setCell ⟨gb341, 1, none⟩ (.int .i64 ((rd_T92 l0 x7_1).f1)))).cell? _ = some _ from hx344_1)); clear hn344_0; clear hn344_1; replace p344 := eq_true p344; replace q344 := eq_true q344)); try go_wp2_with (first | ((with_reducible refine gate_dst (N := 4) rfl ?_); refine box_event ?hg (N := 4) ?hd (cs := #[.int .i64 0, .int .i64 0]) (t := 92) ?hr ?_; (case hd => rfl); (case hg => rfl); (case hr => exact z104_); intro gb341 hg w14 hbox hb; have BK341 := q_ (hbox); have GW341 := ge_ hg; have GE341 := ge_ hg; replace HB := hb_ hb; clear hb hbox hg; obtain ⟨hz_, hz_, hz_, hz_⟩ := cs2_ BK341.out) | (go_at_call 93; (with_reducible refine (impl_isKey.calls ((rd_T92 l0 x7_1).f0) true _ A5.out).mono ?_); rintro e w' ⟨rfl, ⟨nd, rfl⟩⟩; (try first | exact ⟨rfl, _, World.drewN_drewN _ _ _⟩ | exact ⟨rfl, _, Eq.trans (World.drewN_drewN _ _ _) (congrArg (World.drewN _) (Nat.add_assoc _ _ _))⟩)) | (go_at_call 94; (with_reducible refine (impl_isNum.calls ((rd_T92 l0 x7_1).f1) true _ A7.out).mono ?_); rintro e w' ⟨rfl, ⟨nd, rfl⟩⟩; (try first | exact ⟨rfl, _, World.drewN_drewN _ _ _⟩ | exact ⟨rfl, _, Eq.trans (World.drewN_drewN _ _ _) (congrArg (World.drewN _) (Nat.add_assoc _ _ _))⟩); have p344 : 0 ≤ ((ji10) : Int) := of_decide_eq_true z2_; have q344 : (ji10) < (l0.length : Int) := of_decide_eq_true z2_; obtain ⟨ad344, e344, hx344_0, hx344_1⟩ := at_T92 HR0.out (ji10) p344 q344; obtain rfl : ad340 = ad344 := z98_; have hn344_0 : ad340.block ≠ gb341 := Nat.ne_of_lt (Nat.lt_of_lt_of_le (by have := World.block_lt_of_cell? _ _ hx344_0; first | rwa [add_block] at this | exact this) GW341.out); have hn344_1 : ad340.block ≠ gb341 := Nat.ne_of_lt (Nat.lt_of_lt_of_le (by have := World.block_lt_of_cell? _ _ hx344_0; first | rwa [add_block] at this | exact this) GW341.out); replace hx344_0 := up_ HB hx344_0; replace hx344_1 := up_ HB hx344_1; replace hx344_0 := (cell_far (p := ⟨gb341, 0, none⟩) z13_ (.int .i64 ((rd_T92 l0 x7_1).f0))).trans hx344_0; replace hx344_1 := (cell_far (p := ⟨gb341, 0, none⟩) z13_ (.int .i64 ((rd_T92 l0 x7_1).f0))).trans hx344_1; replace hx344_0 := (cell_far (p := ⟨gb341, 1, none⟩) z14_ (.int .i64 ((rd_T92 l0 x7_1).f1))).trans hx344_0; replace hx344_1 := (cell_far (p := ⟨gb341, 1, none⟩) z14_ (.int .i64 ((rd_T92 l0 x7_1).f1))).trans hx344_1; (try have hy344_0 := fun (n_ : Nat) => (show ((((w14.drewN n_).setCell ⟨gb341, 0, none⟩ (.int .i64 ((rd_T92 l0 x7_1).f0))).setCell ⟨gb341, 1, none⟩ (.int .i64 ((rd_T92 l0 x7_1).f1)))).cell? _ = some _ from hx344_0)); (try have hy344_1 := fun (n_ : Nat) => (show ((((w14.drewN n_).setCell ⟨gb341, 0, none⟩ (.int .i64 ((rd_T92 l0 x7_1).f0))).setCell ⟨gb341, 1, none⟩ (.int .i64 ((rd_T92 l0 x7_1).f1)))).cell? _ = some _ from hx344_1)); clear hn344_0; clear hn344_1; replace p344 := eq_true p344; replace q344 := eq_true q344)))
       go_ret
       exact ⟨by first | rfl | (simp [errW_none, errW_some] <;> rfl) | (simp only [← hji10]; first | rfl | (simp [errW_none, errW_some] <;> rfl)) | (simp [*, errW_none, errW_some] <;> rfl), cb_⟩
      ·rw [if_neg c13] at H
       have c13b0 : decide (((rd_T92 l0 x7_1).f0) ≤ ((rd_T92 l0 (ji10)).f0)) = false := decide_eq_false c13
       clear c13
       have H' := q_ H
       clear H
       have p340 : 0 ≤ (x7_1 : Int) := of_decide_eq_true z2_
       have q340 : x7_1 < (l0.length : Int) := of_decide_eq_true z2_
       obtain ⟨ad340, e340, hx340_0, hx340_1⟩ := at_T92 HR0.out x7_1 p340 q340
       cases e340
       replace hx340_0 := up_ HB hx340_0
       replace hx340_1 := up_ HB hx340_1
       replace p340 := eq_true p340
       replace q340 := eq_true q340
       go_wp2_with (first | ((with_reducible refine gate_dst (N := 4) rfl ?_); refine box_event ?hg (N := 4) ?hd (cs := #[.int .i64 0, .int .i64 0]) (t := 92) ?hr ?_; (case hd => rfl); (case hg => rfl); (case hr => exact z104_); intro gb341 hg w16 hbox hb; have BK341 := q_ (hbox); have GW341 := ge_ hg; have GE341 := ge_ hg; replace HB := hb_ hb; clear hb hbox hg; obtain ⟨hz_, hz_, hz_, hz_⟩ := cs2_ BK341.out) | (go_at_call 93; (with_reducible refine (impl_isKey.calls ((rd_T92 l0 x7_1).f0) true _ A5.out).mono ?_); rintro e w' ⟨rfl, ⟨nd, rfl⟩⟩; (try first | exact ⟨rfl, _, World.drewN_drewN _ _ _⟩ | exact ⟨rfl, _, Eq.trans (World.drewN_drewN _ _ _) (congrArg (World.drewN _) (Nat.add_assoc _ _ _))⟩)) | (go_at_call 94; (with_reducible refine (impl_isNum.calls ((rd_T92 l0 x7_1).f1) true _ A7.out).mono ?_); rintro e w' ⟨rfl, ⟨nd, rfl⟩⟩; (try first | exact ⟨rfl, _, World.drewN_drewN _ _ _⟩ | exact ⟨rfl, _, Eq.trans (World.drewN_drewN _ _ _) (congrArg (World.drewN _) (Nat.add_assoc _ _ _))⟩); have p344 : 0 ≤ ((ji10) : Int) := of_decide_eq_true z2_; have q344 : (ji10) < (l0.length : Int) := of_decide_eq_true z2_; obtain ⟨ad344, e344, hx344_0, hx344_1⟩ := at_T92 HR0.out (ji10) p344 q344; obtain rfl : ad340 = ad344 := z98_; have hn344_0 : ad340.block ≠ gb341 := Nat.ne_of_lt (Nat.lt_of_lt_of_le (by have := World.block_lt_of_cell? _ _ hx344_0; first | rwa [add_block] at this | exact this) GW341.out); have hn344_1 : ad340.block ≠ gb341 := Nat.ne_of_lt (Nat.lt_of_lt_of_le (by have := World.block_lt_of_cell? _ _ hx344_0; first | rwa [add_block] at this | exact this) GW341.out); replace hx344_0 := up_ HB hx344_0; replace hx344_1 := up_ HB hx344_1; replace hx344_0 := (cell_far (p := ⟨gb341, 0, none⟩) z13_ (.int .i64 ((rd_T92 l0 x7_1).f0))).trans hx344_0; replace hx344_1 := (cell_far (p := ⟨gb341, 0, none⟩) z13_ (.int .i64 ((rd_T92 l0 x7_1).f0))).trans hx344_1; replace hx344_0 := (cell_far (p := ⟨gb341, 1, none⟩) z14_ (.int .i64 ((rd_T92 l0 x7_1).f1))).trans hx344_0; replace hx344_1 := (cell_far (p := ⟨gb341, 1, none⟩) z14_ (.int .i64 ((rd_T92 l0 x7_1).f1))).trans hx344_1; (try have hy344_0 := fun (n_ : Nat) => (show ((((w16.drewN n_).setCell ⟨gb341, 0, none⟩ (.int .i64 ((rd_T92 l0 x7_1).f0))).setCell ⟨gb341, 1, none⟩ (.int .i64 ((rd_T92 l0 x7_1).f1)))).cell? _ = some _ from hx344_0)); (try have hy344_1 := fun (n_ : Nat) => (show ((((w16.drewN n_).setCell ⟨gb341, 0, none⟩ (.int .i64 ((rd_T92 l0 x7_1).f0))).setCell ⟨gb341, 1, none⟩ (.int .i64 ((rd_T92 l0 x7_1).f1)))).cell? _ = some _ from hx344_1)); clear hn344_0; clear hn344_1; replace p344 := eq_true p344; replace q344 := eq_true q344))
       repeat (go_quiet (first | ((with_reducible refine gate_dst (N := 4) rfl ?_); refine box_event ?hg (N := 4) ?hd (cs := #[.int .i64 0, .int .i64 0]) (t := 92) ?hr ?_; (case hd => rfl); (case hg => rfl); (case hr => exact z104_); intro gb341 hg w16 hbox hb; have BK341 := q_ (hbox); have GW341 := ge_ hg; have GE341 := ge_ hg; replace HB := hb_ hb; clear hb hbox hg; obtain ⟨hz_, hz_, hz_, hz_⟩ := cs2_ BK341.out) | (go_at_call 93; (with_reducible refine (impl_isKey.calls ((rd_T92 l0 x7_1).f0) true _ A5.out).mono ?_); rintro e w' ⟨rfl, ⟨nd, rfl⟩⟩; (try first | exact ⟨rfl, _, World.drewN_drewN _ _ _⟩ | exact ⟨rfl, _, Eq.trans (World.drewN_drewN _ _ _) (congrArg (World.drewN _) (Nat.add_assoc _ _ _))⟩)) | (go_at_call 94; (with_reducible refine (impl_isNum.calls ((rd_T92 l0 x7_1).f1) true _ A7.out).mono ?_); rintro e w' ⟨rfl, ⟨nd, rfl⟩⟩; (try first | exact ⟨rfl, _, World.drewN_drewN _ _ _⟩ | exact ⟨rfl, _, Eq.trans (World.drewN_drewN _ _ _) (congrArg (World.drewN _) (Nat.add_assoc _ _ _))⟩); have p344 : 0 ≤ ((ji10) : Int) := of_decide_eq_true z2_; have q344 : (ji10) < (l0.length : Int) := of_decide_eq_true z2_; obtain ⟨ad344, e344, hx344_0, hx344_1⟩ := at_T92 HR0.out (ji10) p344 q344; obtain rfl : ad340 = ad344 := z98_; have hn344_0 : ad340.block ≠ gb341 := Nat.ne_of_lt (Nat.lt_of_lt_of_le (by have := World.block_lt_of_cell? _ _ hx344_0; first | rwa [add_block] at this | exact this) GW341.out); have hn344_1 : ad340.block ≠ gb341 := Nat.ne_of_lt (Nat.lt_of_lt_of_le (by have := World.block_lt_of_cell? _ _ hx344_0; first | rwa [add_block] at this | exact this) GW341.out); replace hx344_0 := up_ HB hx344_0; replace hx344_1 := up_ HB hx344_1; replace hx344_0 := (cell_far (p := ⟨gb341, 0, none⟩) z13_ (.int .i64 ((rd_T92 l0 x7_1).f0))).trans hx344_0; replace hx344_1 := (cell_far (p := ⟨gb341, 0, none⟩) z13_ (.int .i64 ((rd_T92 l0 x7_1).f0))).trans hx344_1; replace hx344_0 := (cell_far (p := ⟨gb341, 1, none⟩) z14_ (.int .i64 ((rd_T92 l0 x7_1).f1))).trans hx344_0; replace hx344_1 := (cell_far (p := ⟨gb341, 1, none⟩) z14_ (.int .i64 ((rd_T92 l0 x7_1).f1))).trans hx344_1; (try have hy344_0 := fun (n_ : Nat) => (show ((((w16.drewN n_).setCell ⟨gb341, 0, none⟩ (.int .i64 ((rd_T92 l0 x7_1).f0))).setCell ⟨gb341, 1, none⟩ (.int .i64 ((rd_T92 l0 x7_1).f1)))).cell? _ = some _ from hx344_0)); (try have hy344_1 := fun (n_ : Nat) => (show ((((w16.drewN n_).setCell ⟨gb341, 0, none⟩ (.int .i64 ((rd_T92 l0 x7_1).f0))).setCell ⟨gb341, 1, none⟩ (.int .i64 ((rd_T92 l0 x7_1).f1)))).cell? _ = some _ from hx344_1)); clear hn344_0; clear hn344_1; replace p344 := eq_true p344; replace q344 := eq_true q344)); try go_wp2_with (first | ((with_reducible refine gate_dst (N := 4) rfl ?_); refine box_event ?hg (N := 4) ?hd (cs := #[.int .i64 0, .int .i64 0]) (t := 92) ?hr ?_; (case hd => rfl); (case hg => rfl); (case hr => exact z104_); intro gb341 hg w16 hbox hb; have BK341 := q_ (hbox); have GW341 := ge_ hg; have GE341 := ge_ hg; replace HB := hb_ hb; clear hb hbox hg; obtain ⟨hz_, hz_, hz_, hz_⟩ := cs2_ BK341.out) | (go_at_call 93; (with_reducible refine (impl_isKey.calls ((rd_T92 l0 x7_1).f0) true _ A5.out).mono ?_); rintro e w' ⟨rfl, ⟨nd, rfl⟩⟩; (try first | exact ⟨rfl, _, World.drewN_drewN _ _ _⟩ | exact ⟨rfl, _, Eq.trans (World.drewN_drewN _ _ _) (congrArg (World.drewN _) (Nat.add_assoc _ _ _))⟩)) | (go_at_call 94; (with_reducible refine (impl_isNum.calls ((rd_T92 l0 x7_1).f1) true _ A7.out).mono ?_); rintro e w' ⟨rfl, ⟨nd, rfl⟩⟩; (try first | exact ⟨rfl, _, World.drewN_drewN _ _ _⟩ | exact ⟨rfl, _, Eq.trans (World.drewN_drewN _ _ _) (congrArg (World.drewN _) (Nat.add_assoc _ _ _))⟩); have p344 : 0 ≤ ((ji10) : Int) := of_decide_eq_true z2_; have q344 : (ji10) < (l0.length : Int) := of_decide_eq_true z2_; obtain ⟨ad344, e344, hx344_0, hx344_1⟩ := at_T92 HR0.out (ji10) p344 q344; obtain rfl : ad340 = ad344 := z98_; have hn344_0 : ad340.block ≠ gb341 := Nat.ne_of_lt (Nat.lt_of_lt_of_le (by have := World.block_lt_of_cell? _ _ hx344_0; first | rwa [add_block] at this | exact this) GW341.out); have hn344_1 : ad340.block ≠ gb341 := Nat.ne_of_lt (Nat.lt_of_lt_of_le (by have := World.block_lt_of_cell? _ _ hx344_0; first | rwa [add_block] at this | exact this) GW341.out); replace hx344_0 := up_ HB hx344_0; replace hx344_1 := up_ HB hx344_1; replace hx344_0 := (cell_far (p := ⟨gb341, 0, none⟩) z13_ (.int .i64 ((rd_T92 l0 x7_1).f0))).trans hx344_0; replace hx344_1 := (cell_far (p := ⟨gb341, 0, none⟩) z13_ (.int .i64 ((rd_T92 l0 x7_1).f0))).trans hx344_1; replace hx344_0 := (cell_far (p := ⟨gb341, 1, none⟩) z14_ (.int .i64 ((rd_T92 l0 x7_1).f1))).trans hx344_0; replace hx344_1 := (cell_far (p := ⟨gb341, 1, none⟩) z14_ (.int .i64 ((rd_T92 l0 x7_1).f1))).trans hx344_1; (try have hy344_0 := fun (n_ : Nat) => (show ((((w16.drewN n_).setCell ⟨gb341, 0, none⟩ (.int .i64 ((rd_T92 l0 x7_1).f0))).setCell ⟨gb341, 1, none⟩ (.int .i64 ((rd_T92 l0 x7_1).f1)))).cell? _ = some _ from hx344_0)); (try have hy344_1 := fun (n_ : Nat) => (show ((((w16.drewN n_).setCell ⟨gb341, 0, none⟩ (.int .i64 ((rd_T92 l0 x7_1).f0))).setCell ⟨gb341, 1, none⟩ (.int .i64 ((rd_T92 l0 x7_1).f1)))).cell? _ = some _ from hx344_1)); clear hn344_0; clear hn344_1; replace p344 := eq_true p344; replace q344 := eq_true q344)))
       go_roundg k1
       case measure => have := HK1.out; omega
       case rel => exact ⟨(wrap64 (x7_1 + 1)), z4_, H', ⟨z29_⟩, ⟨cb_⟩⟩
     ·have H' := q_ H
      clear H
      have p340 : 0 ≤ (x7_1 : Int) := of_decide_eq_true z2_
      have q340 : x7_1 < (l0.length : Int) := of_decide_eq_true z2_
      obtain ⟨ad340, e340, hx340_0, hx340_1⟩ := at_T92 HR0.out x7_1 p340 q340
      cases e340
      replace hx340_0 := up_ HB hx340_0
      replace hx340_1 := up_ HB hx340_1
      replace p340 := eq_true p340
      replace q340 := eq_true q340
      go_wp2_with (first | ((with_reducible refine gate_dst (N := 4) rfl ?_); refine box_event ?hg (N := 4) ?hd (cs := #[.int .i64 0, .int .i64 0]) (t := 92) ?hr ?_; (case hd => rfl); (case hg => rfl); (case hr => exact z104_); intro gb341 hg w18 hbox hb; have BK341 := q_ (hbox); have GW341 := ge_ hg; have GE341 := ge_ hg; replace HB := hb_ hb; clear hb hbox hg; obtain ⟨hz_, hz_, hz_, hz_⟩ := cs2_ BK341.out) | (go_at_call 93; (with_reducible refine (impl_isKey.calls ((rd_T92 l0 x7_1).f0) true _ A5.out).mono ?_); rintro e w' ⟨rfl, ⟨nd, rfl⟩⟩; (try first | exact ⟨rfl, _, World.drewN_drewN _ _ _⟩ | exact ⟨rfl, _, Eq.trans (World.drewN_drewN _ _ _) (congrArg (World.drewN _) (Nat.add_assoc _ _ _))⟩)) | (go_at_call 94; (with_reducible refine (impl_isNum.calls ((rd_T92 l0 x7_1).f1) true _ A7.out).mono ?_); rintro e w' ⟨rfl, ⟨nd, rfl⟩⟩; (try first | exact ⟨rfl, _, World.drewN_drewN _ _ _⟩ | exact ⟨rfl, _, Eq.trans (World.drewN_drewN _ _ _) (congrArg (World.drewN _) (Nat.add_assoc _ _ _))⟩)))
      repeat (go_quiet (first | ((with_reducible refine gate_dst (N := 4) rfl ?_); refine box_event ?hg (N := 4) ?hd (cs := #[.int .i64 0, .int .i64 0]) (t := 92) ?hr ?_; (case hd => rfl); (case hg => rfl); (case hr => exact z104_); intro gb341 hg w18 hbox hb; have BK341 := q_ (hbox); have GW341 := ge_ hg; have GE341 := ge_ hg; replace HB := hb_ hb; clear hb hbox hg; obtain ⟨hz_, hz_, hz_, hz_⟩ := cs2_ BK341.out) | (go_at_call 93; (with_reducible refine (impl_isKey.calls ((rd_T92 l0 x7_1).f0) true _ A5.out).mono ?_); rintro e w' ⟨rfl, ⟨nd, rfl⟩⟩; (try first | exact ⟨rfl, _, World.drewN_drewN _ _ _⟩ | exact ⟨rfl, _, Eq.trans (World.drewN_drewN _ _ _) (congrArg (World.drewN _) (Nat.add_assoc _ _ _))⟩)) | (go_at_call 94; (with_reducible refine (impl_isNum.calls ((rd_T92 l0 x7_1).f1) true _ A7.out).mono ?_); rintro e w' ⟨rfl, ⟨nd, rfl⟩⟩; (try first | exact ⟨rfl, _, World.drewN_drewN _ _ _⟩ | exact ⟨rfl, _, Eq.trans (World.drewN_drewN _ _ _) (congrArg (World.drewN _) (Nat.add_assoc _ _ _))⟩))); try go_wp2_with (first | ((with_reducible refine gate_dst (N := 4) rfl ?_); refine box_event ?hg (N := 4) ?hd (cs := #[.int .i64 0, .int .i64 0]) (t := 92) ?hr ?_; (case hd => rfl); (case hg => rfl); (case hr => exact z104_); intro gb341 hg w18 hbox hb; have BK341 := q_ (hbox); have GW341 := ge_ hg; have GE341 := ge_ hg; replace HB := hb_ hb; clear hb hbox hg; obtain ⟨hz_, hz_, hz_, hz_⟩ := cs2_ BK341.out) | (go_at_call 93; (with_reducible refine (impl_isKey.calls ((rd_T92 l0 x7_1).f0) true _ A5.out).mono ?_); rintro e w' ⟨rfl, ⟨nd, rfl⟩⟩; (try first | exact ⟨rfl, _, World.drewN_drewN _ _ _⟩ | exact ⟨rfl, _, Eq.trans (World.drewN_drewN _ _ _) (congrArg (World.drewN _) (Nat.add_assoc _ _ _))⟩)) | (go_at_call 94; (with_reducible refine (impl_isNum.calls ((rd_T92 l0 x7_1).f1) true _ A7.out).mono ?_); rintro e w' ⟨rfl, ⟨nd, rfl⟩⟩; (try first | exact ⟨rfl, _, World.drewN_drewN _ _ _⟩ | exact ⟨rfl, _, Eq.trans (World.drewN_drewN _ _ _) (congrArg (World.drewN _) (Nat.add_assoc _ _ _))⟩))))
      go_roundg k1
      case measure => have := HK1.out; omega
      case rel => exact ⟨(wrap64 (x7_1 + 1)), z4_, H', ⟨z29_⟩, ⟨cb_⟩⟩
    ·obtain rfl := si_ H
     have p340 : 0 ≤ (x7_1 : Int) := of_decide_eq_true z2_
     have q340 : x7_1 < (l0.length : Int) := of_decide_eq_true z2_
     obtain ⟨ad340, e340, hx340_0, hx340_1⟩ := at_T92 HR0.out x7_1 p340 q340
     cases e340
     replace hx340_0 := up_ HB hx340_0
     replace hx340_1 := up_ HB hx340_1
     replace p340 := eq_true p340
     replace q340 := eq_true q340
     go_wp2_with (first | ((with_reducible refine gate_dst (N := 4) rfl ?_); refine box_event ?hg (N := 4) ?hd (cs := #[.int .i64 0, .int .i64 0]) (t := 92) ?hr ?_; (case hd => rfl); (case hg => rfl); (case hr => exact z104_); intro gb341 hg w20 hbox hb; have BK341 := q_ (hbox); have GW341 := ge_ hg; have GE341 := ge_ hg; replace HB := hb_ hb; clear hb hbox hg; obtain ⟨hz_, hz_, hz_, hz_⟩ := cs2_ BK341.out) | (go_at_call 93; (with_reducible refine (impl_isKey.calls ((rd_T92 l0 x7_1).f0) true _ A5.out).mono ?_); rintro e w' ⟨rfl, ⟨nd, rfl⟩⟩; (try first | exact ⟨rfl, _, World.drewN_drewN _ _ _⟩ | exact ⟨rfl, _, Eq.trans (World.drewN_drewN _ _ _) (congrArg (World.drewN _) (Nat.add_assoc _ _ _))⟩)) | (go_at_call 94; (with_reducible refine (impl_isNum.calls ((rd_T92 l0 x7_1).f1) false _ A7.out).mono ?_); rintro e w' ⟨rfl, ⟨nd, rfl⟩⟩; (try first | exact ⟨rfl, _, World.drewN_drewN _ _ _⟩ | exact ⟨rfl, _, Eq.trans (World.drewN_drewN _ _ _) (congrArg (World.drewN _) (Nat.add_assoc _ _ _))⟩)))
     repeat (go_quiet (first | ((with_reducible refine gate_dst (N := 4) rfl ?_); refine box_event ?hg (N := 4) ?hd (cs := #[.int .i64 0, .int .i64 0]) (t := 92) ?hr ?_; (case hd => rfl); (case hg => rfl); (case hr => exact z104_); intro gb341 hg w20 hbox hb; have BK341 := q_ (hbox); have GW341 := ge_ hg; have GE341 := ge_ hg; replace HB := hb_ hb; clear hb hbox hg; obtain ⟨hz_, hz_, hz_, hz_⟩ := cs2_ BK341.out) | (go_at_call 93; (with_reducible refine (impl_isKey.calls ((rd_T92 l0 x7_1).f0) true _ A5.out).mono ?_); rintro e w' ⟨rfl, ⟨nd, rfl⟩⟩; (try first | exact ⟨rfl, _, World.drewN_drewN _ _ _⟩ | exact ⟨rfl, _, Eq.trans (World.drewN_drewN _ _ _) (congrArg (World.drewN _) (Nat.add_assoc _ _ _))⟩)) | (go_at_call 94; (with_reducible refine (impl_isNum.calls ((rd_T92 l0 x7_1).f1) false _ A7.out).mono ?_); rintro e w' ⟨rfl, ⟨nd, rfl⟩⟩; (try first | exact ⟨rfl, _, World.drewN_drewN _ _ _⟩ | exact ⟨rfl, _, Eq.trans (World.drewN_drewN _ _ _) (congrArg (World.drewN _) (Nat.add_assoc _ _ _))⟩))); try go_wp2_with (first | ((with_reducible refine gate_dst (N := 4) rfl ?_); refine box_event ?hg (N := 4) ?hd (cs := #[.int .i64 0, .int .i64 0]) (t := 92) ?hr ?_; (case hd => rfl); (case hg => rfl); (case hr => exact z104_); intro gb341 hg w20 hbox hb; have BK341 := q_ (hbox); have GW341 := ge_ hg; have GE341 := ge_ hg; replace HB := hb_ hb; clear hb hbox hg; obtain ⟨hz_, hz_, hz_, hz_⟩ := cs2_ BK341.out) | (go_at_call 93; (with_reducible refine (impl_isKey.calls ((rd_T92 l0 x7_1).f0) true _ A5.out).mono ?_); rintro e w' ⟨rfl, ⟨nd, rfl⟩⟩; (try first | exact ⟨rfl, _, World.drewN_drewN _ _ _⟩ | exact ⟨rfl, _, Eq.trans (World.drewN_drewN _ _ _) (congrArg (World.drewN _) (Nat.add_assoc _ _ _))⟩)) | (go_at_call 94; (with_reducible refine (impl_isNum.calls ((rd_T92 l0 x7_1).f1) false _ A7.out).mono ?_); rintro e w' ⟨rfl, ⟨nd, rfl⟩⟩; (try first | exact ⟨rfl, _, World.drewN_drewN _ _ _⟩ | exact ⟨rfl, _, Eq.trans (World.drewN_drewN _ _ _) (congrArg (World.drewN _) (Nat.add_assoc _ _ _))⟩))))
     go_ret
     exact ⟨z1_, cb_⟩
   ·obtain rfl := si_ H
    have p340 : 0 ≤ (x7_1 : Int) := of_decide_eq_true z2_
    have q340 : x7_1 < (l0.length : Int) := of_decide_eq_true z2_
    obtain ⟨ad340, e340, hx340_0, hx340_1⟩ := at_T92 HR0.out x7_1 p340 q340
    cases e340
    replace hx340_0 := up_ HB hx340_0
    replace hx340_1 := up_ HB hx340_1
    replace p340 := eq_true p340
    replace q340 := eq_true q340
    go_wp2_with (first | ((with_reducible refine gate_dst (N := 4) rfl ?_); refine box_event ?hg (N := 4) ?hd (cs := #[.int .i64 0, .int .i64 0]) (t := 92) ?hr ?_; (case hd => rfl); (case hg => rfl); (case hr => exact z104_); intro gb341 hg w22 hbox hb; have BK341 := q_ (hbox); have GW341 := ge_ hg; have GE341 := ge_ hg; replace HB := hb_ hb; clear hb hbox hg; obtain ⟨hz_, hz_, hz_, hz_⟩ := cs2_ BK341.out) | (go_at_call 93; (with_reducible refine (impl_isKey.calls ((rd_T92 l0 x7_1).f0) false _ A5.out).mono ?_); rintro e w' ⟨rfl, ⟨nd, rfl⟩⟩; (try first | exact ⟨rfl, _, World.drewN_drewN _ _ _⟩ | exact ⟨rfl, _, Eq.trans (World.drewN_drewN _ _ _) (congrArg (World.drewN _) (Nat.add_assoc _ _ _))⟩)))
    repeat (go_quiet (first | ((with_reducible refine gate_dst (N := 4) rfl ?_); refine box_event ?hg (N := 4) ?hd (cs := #[.int .i64 0, .int .i64 0]) (t := 92) ?hr ?_; (case hd => rfl); (case hg => rfl); (case hr => exact z104_); intro gb341 hg w22 hbox hb; have BK341 := q_ (hbox); have GW341 := ge_ hg; have GE341 := ge_ hg; replace HB := hb_ hb; clear hb hbox hg; obtain ⟨hz_, hz_, hz_, hz_⟩ := cs2_ BK341.out) | (go_at_call 93; (with_reducible refine (impl_isKey.calls ((rd_T92 l0 x7_1).f0) false _ A5.out).mono ?_); rintro e w' ⟨rfl, ⟨nd, rfl⟩⟩; (try first | exact ⟨rfl, _, World.drewN_drewN _ _ _⟩ | exact ⟨rfl, _, Eq.trans (World.drewN_drewN _ _ _) (congrArg (World.drewN _) (Nat.add_assoc _ _ _))⟩))); try go_wp2_with (first | ((with_reducible refine gate_dst (N := 4) rfl ?_); refine box_event ?hg (N := 4) ?hd (cs := #[.int .i64 0, .int .i64 0]) (t := 92) ?hr ?_; (case hd => rfl); (case hg => rfl); (case hr => exact z104_); intro gb341 hg w22 hbox hb; have BK341 := q_ (hbox); have GW341 := ge_ hg; have GE341 := ge_ hg; replace HB := hb_ hb; clear hb hbox hg; obtain ⟨hz_, hz_, hz_, hz_⟩ := cs2_ BK341.out) | (go_at_call 93; (with_reducible refine (impl_isKey.calls ((rd_T92 l0 x7_1).f0) false _ A5.out).mono ?_); rintro e w' ⟨rfl, ⟨nd, rfl⟩⟩; (try first | exact ⟨rfl, _, World.drewN_drewN _ _ _⟩ | exact ⟨rfl, _, Eq.trans (World.drewN_drewN _ _ _) (congrArg (World.drewN _) (Nat.add_assoc _ _ _))⟩))))
    go_ret
    exact ⟨z1_, cb_⟩
  ·obtain rfl := si_ H
   go_wp2
   repeat (go_quiet (fail); try go_wp2)
   go_ret
   exact ⟨z1_, cb_⟩

/-! ### impl_leafOk_f1: function 123 -/
def impl_leafOk_f1.f (a0_0 : Int) (a0_1 : Int) (a28_0 : Int) (a36_0 : Int) : Option (Bool) := (impl_within.f a0_0 a28_0 (wrap64 (a36_0 - 1))).bind fun t346 => (some (!t346))
set_option maxHeartbeats 8000000 in
set_option maxRecDepth 100000 in
theorem impl_leafOk_f1.calls (a0_0 : Int) (a0_1 : Int) (gc28 : Nat) (a28_0 : Int) (gc36 : Nat) (a36_0 : Int) (r : Bool) (w : World) (hb28 : w.heap[gc28]? = some (.cells #[.int .i64 a28_0] 3 (0, 0))) (hb36 : w.heap[gc36]? = some (.cells #[.int .i64 a36_0] 3 (0, 0))) (h : impl_leafOk_f1.f a0_0 a0_1 a28_0 a36_0 = some r) :
  Calls Try.prog 123 #[.agg #[.int .i64 a0_0, .int .i64 a0_1], .pointer (some ⟨gc28, 0, none⟩), .pointer (some ⟨gc36, 0, none⟩)] w fun e w' => e = .returned (.bool r) ∧ Below w.heap.size w w' := by
 have hu92 := Try.underlying92
 have BK28 := q_ hb28
 clear hb28
 have BK36 := q_ hb36
 clear hb36
 have HB := q_ (Below.refl w.heap.size w)
 have H := h; clear h
 unfold impl_leafOk_f1.f at H
 replace H := bi_ H; obtain ⟨t346, A4, H⟩ := H
 obtain rfl := si_ H
 go_enter Try.func123, Try.ntmps123
 go_wp2_with (first | ((with_reducible refine gate_dst (N := 3) rfl ?_); refine box_event ?hg (N := 3) ?hd (cs := #[.int .i64 a0_0, .int .i64 a0_1]) (t := 92) ?hr ?_; (case hd => rfl); (case hg => rfl); (case hr => exact z104_); intro gb345 hg w5 hbox hb; have BK345 := q_ (hbox); have GW345 := ge_ hg; have GE345 := ge_ hg; replace HB := hb_ hb; have NB28_345 := nl_ hg BK28; have NB345_28 := nr_ hg BK28; replace BK28 := rb_ BK28 hb; have NB36_345 := nl_ hg BK36; have NB345_36 := nr_ hg BK36; replace BK36 := rb_ BK36 hb; clear hb hbox hg; have hnb6 := NB345_28.out; have hnc6 := NB28_345.out; have hnb7 := NB345_36.out; have hnc7 := NB36_345.out; obtain ⟨hz_, hz_, hz_, hz_⟩ := cs2_ BK345.out; have hcz9_0 : w5.cell? ⟨gc28, 0, none⟩ = some (.int .i64 a28_0) := (blk_cell BK28.out 0).trans rfl; have hfz9_0 := blk_frozen BK28.out 0; have hcz10_0 : w5.cell? ⟨gc36, 0, none⟩ = some (.int .i64 a36_0) := (blk_cell BK36.out 0).trans rfl; have hfz10_0 := blk_frozen BK36.out 0) | ((with_reducible refine gate_callee (f := 102) rfl ?_); refine goesL_ (some 10) rfl rfl Try.func102 (by kernel_rfl) rfl #[.int .i64 a0_0, .int .i64 a28_0, .int .i64 (wrap64 (a36_0 - 1))] rfl z0_ ?_; (with_reducible refine (impl_within.calls a0_0 a28_0 (wrap64 (a36_0 - 1)) t346 _ A4.out).mono ?_); rintro e w' ⟨rfl, ⟨nd, rfl⟩⟩; refine ⟨_, rfl, ?_⟩))
 go_ret
 exact ⟨z1_, cb_⟩

end Go.Proofs.Ytfnndcpaldkkoaa.PFnExactTreeGet
