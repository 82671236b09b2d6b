-- Written by a program of this session, which goes by the kit's print. Not trusted: Lean checks it.
import Derived.Test.YtfnndcpaldkkoaaPFnExactPendingx0
import Derived.Test.YtfnndcpaldkkoaaPFnExactPendingx13
namespace Go.Proofs.Ytfnndcpaldkkoaa.PFnExactPending
open Go.RowKit Go.Proofs.YtfnndcpaldkkoaaW.PrintWords Go.Proofs.YtfnndcpaldkkoaaW.PrintLast Go.Proofs.YtfnndcpaldkkoaaW.PrintMore
attribute [local go_sem] Instr.field asAgg max2_int min2_int max_two min_two max_three min_three max_four min_four   -- for this text's walks alone
set_option linter.unusedVariables false
set_option linter.unusedSimpArgs false

/-! ### laws_markTree: function 29 -/
def laws_markTree.f (a0_0 : Bool) (l0_1 : List S92) (l0_2 : List Int) (l0_3 : List S34) (l0_4 : List S72) (a1 : Int) : Option Int := if 0 ≤ a1 ∧ a1 + 2 * (l0_1.length : Int) + (l0_2.length : Int) + (cntL l0_3 : Int) + 3 * (l0_4.length : Int) < 9223372036854775808 then some (a1 + 2 * (l0_1.length : Int) + (l0_2.length : Int) + (cntL l0_3 : Int) + 3 * (l0_4.length : Int)) else none
set_option maxHeartbeats 8000000 in
set_option maxRecDepth 100000 in
theorem laws_markTree.calls (a0_0 : Bool) (P1_ : Nat → Prop) (u1 : Value) (l0_1 : List S92) (P2_ : Nat → Prop) (u2 : Value) (l0_2 : List Int) (P3_ : Nat → Prop) (u3 : Value) (l0_3 : List S34) (P4_ : Nat → Prop) (u4 : Value) (l0_4 : List S72) (a1 : Int) (r : Int) (w0 w : World) (hB : Below w0.heap.size w0 w)
  (ho1 : Kd.R k92 92 w w0.heap.size P1_ u1 l0_1) (ho2 : Kd.R (Kd.int .i64) 3 w w0.heap.size P2_ u2 l0_2) (ho3 : Kd.R k34 34 w w0.heap.size P3_ u3 l0_3) (ho4 : Kd.R k72 72 w w0.heap.size P4_ u4 l0_4) (h : laws_markTree.f a0_0 l0_1 l0_2 l0_3 l0_4 a1 = some r) :
  Calls Try.prog 29 #[.agg #[.bool a0_0, u1, u2, u3, u4], .int .i64 a1] w fun e w' => e = .returned (.int .i64 r) ∧ Below w0.heap.size w0 w' ∧ Kept w w' (fun k_ => P1_ k_ ∨ P2_ k_ ∨ P3_ k_ ∨ P4_ k_) := by
 unfold laws_markTree.f at h
 by_cases hc_ : 0 ≤ a1 ∧ a1 + 2 * (l0_1.length : Int) + (l0_2.length : Int) + (cntL l0_3 : Int) + 3 * (l0_4.length : Int) < 9223372036854775808
 case neg => rw [if_neg hc_] at h; cases h
 rw [if_pos hc_] at h
 obtain rfl := Option.some.inj h
 have HA := q_ hc_
 clear h hc_
 have hu34 := Try.underlying34
 obtain ⟨A1, c1, rfl⟩ := Kd.R_slice ho1
 obtain ⟨A2, c2, rfl⟩ := Kd.R_slice ho2
 obtain ⟨A3, c3, rfl⟩ := Kd.R_slice ho3
 obtain ⟨A4, c4, rfl⟩ := Kd.R_slice ho4
 have O1 := q_ (Kd.R_mono (ok' := fun k => P1_ k ∧ k < w.heap.size) (Kd.R_bound ho1) (fun _ hk => ⟨hk.1, hk.2.2.1⟩))
 have O2 := q_ (Kd.R_mono (ok' := fun k => P2_ k ∧ k < w.heap.size) (Kd.R_bound ho2) (fun _ hk => ⟨hk.1, hk.2.2.1⟩))
 have O3 := q_ (Kd.R_mono (ok' := fun k => P3_ k ∧ k < w.heap.size) (Kd.R_bound ho3) (fun _ hk => ⟨hk.1, hk.2.2.1⟩))
 have O4 := q_ (Kd.R_mono (ok' := fun k => P4_ k ∧ k < w.heap.size) (Kd.R_bound ho4) (fun _ hk => ⟨hk.1, hk.2.2.1⟩))
 have HB := q_ hB
 clear ho1 ho2 ho3 ho4 hB
 go_enter Try.func29, Try.ntmps29
 go_wp2_with (first
  | ((with_reducible refine gate_dst (N := 2) rfl ?_); refine box_event ?hg (N := 2) ?hd (cs := #[.bool a0_0, .slice A1 l0_1.length c1, .slice A2 l0_2.length c2, .slice A3 l0_3.length c3, .slice A4 l0_4.length c4]) (t := 34) ?hr ?_; (case hd => rfl); (case hg => rfl); (case hr => exact z76_); intro gb1 hg w5 hbox hb; have GE := q_ (show w.heap.size ≤ gb1 from by rw [hg]; exact Nat.le_refl _); have HK := q_ (Sim.below (S := fun k_ => P1_ k_ ∨ P2_ k_ ∨ P3_ k_ ∨ P4_ k_) hb); have n0_ := q_ (below_step HB.out hb); have BK := q_ hbox; have n1_ := q_ (Kd.R_below O1.out hb); have n2_ := q_ (Kd.R_below O2.out hb); have n3_ := q_ (Kd.R_below O3.out hb); have n4_ := q_ (Kd.R_below O4.out hb); clear HB O1 O2 O3 O4 hg hbox hb; have HB := n0_; have O1 := n1_; have O2 := n2_; have O3 := n3_; have O4 := n4_; clear n0_ n1_ n2_ n3_ n4_; obtain ⟨hc0_0, hc0_1, hc0_2, hc0_3, hc0_4, hf0_0, hf0_1, hf0_2, hf0_3, hf0_4⟩ := cs5_ BK.out)
  | ((with_reducible refine gate_callee (f := 39) rfl ?_); refine goesL_ (some 8) rfl rfl Try.func39 (by kernel_rfl) rfl #[.slice A1 l0_1.length c1, .int .i64 a1] rfl z28_ ?_; (with_reducible refine (laws_markPairS.mark _ _ l0_1 a1 w0 _ HB.out O1.out ?s0 ?s1).mono ?_); (case s0 => have h2 := HA.out; omega); (case s1 => have h2 := HA.out; omega); rintro e w6 ⟨rfl, hb, hs⟩; refine ⟨_, rfl, ?_⟩; have n0_ := q_ (Sim.trans HK.out hs (fun _ _ h_ => .inl h_.1)); have n1_ := q_ (blk_kept BK.out hs.kept (fun h_ => Nat.not_lt.2 GE.out h_.2)); obtain ⟨y2, e2, _, g2⟩ := R_sim (rel := fun _ _ => True) hs O2.out (fun _ _ _ _ _ hm hc => simI hm hc); obtain ⟨y3, e3, q3, g3⟩ := R_sim34 hs O3.out; obtain ⟨y4, e4, _, g4⟩ := R_sim (rel := fun _ _ => True) hs O4.out (fun _ _ _ _ _ hm hc => sim72 hm hc); have E2 := q_ e2; have E3 := q_ (cntL_rel _ _ e3 q3); have E4 := q_ e4; clear HK HB BK O1 O2 O3 O4 hs e2 e3 q3 e4 hc0_0 hc0_1 hc0_2 hc0_3 hc0_4 hf0_0 hf0_1 hf0_2 hf0_3 hf0_4; have HK := n0_; have BK := n1_; have HB := q_ hb; have O2 := q_ g2; have O3 := q_ g3; have O4 := q_ g4; clear n0_ n1_ hb g2 g3 g4; obtain ⟨hc1_0, hc1_1, hc1_2, hc1_3, hc1_4, hf1_0, hf1_1, hf1_2, hf1_3, hf1_4⟩ := cs5_ BK.out)
  | ((with_reducible refine gate_callee (f := 74) rfl ?_); refine goesL_ (some 12) rfl rfl Try.func74 (by kernel_rfl) rfl #[.slice A2 l0_2.length c2, .int .i64 (a1 + 2 * (l0_1.length : Int))] rfl z28_ ?_; (with_reducible refine (laws_markIntS.mark _ _ y2 (a1 + 2 * (l0_1.length : Int)) w0 _ HB.out O2.out ?s0 ?s1).mono ?_); (case s0 => have h2 := HA.out; omega); (case s1 => have h2 := HA.out; have h3 := E2.out; omega); rintro e w7 ⟨rfl, hb, hs⟩; refine ⟨_, rfl, ?_⟩; have n0_ := q_ (Sim.trans HK.out hs (fun _ _ h_ => .inr (.inl h_.1))); have n1_ := q_ (blk_kept BK.out hs.kept (fun h_ => Nat.not_lt.2 GE.out h_.2)); obtain ⟨z3, e3, q3, g3⟩ := R_sim34 hs O3.out; obtain ⟨z4, e4, _, g4⟩ := R_sim (rel := fun _ _ => True) hs O4.out (fun _ _ _ _ _ hm hc => sim72 hm hc); have F3 := q_ (cntL_rel _ _ e3 q3); have F4 := q_ e4; clear HK HB BK O2 O3 O4 hs e3 q3 e4 hc1_0 hc1_1 hc1_2 hc1_3 hc1_4 hf1_0 hf1_1 hf1_2 hf1_3 hf1_4; have HK := n0_; have BK := n1_; have HB := q_ hb; have O3 := q_ g3; have O4 := q_ g4; clear n0_ n1_ hb g3 g4; obtain ⟨hc2_0, hc2_1, hc2_2, hc2_3, hc2_4, hf2_0, hf2_1, hf2_2, hf2_3, hf2_4⟩ := cs5_ BK.out)
  | ((with_reducible refine gate_callee (f := 75) rfl ?_); refine goesL_ (some 16) rfl rfl Try.func75 (by kernel_rfl) rfl #[.slice A3 l0_3.length c3, .int .i64 (a1 + 2 * (l0_1.length : Int) + (y2.length : Int))] rfl z28_ ?_; (with_reducible refine (laws_markTreeS.mark (cntL z3 + 1) _ _ z3 (a1 + 2 * (l0_1.length : Int) + (y2.length : Int)) w0 _ (Nat.lt_succ_self _) HB.out O3.out ?s0 ?s1).mono ?_); (case s0 => have h2 := HA.out; omega); (case s1 => have h2 := HA.out; have h3 := E2.out; have h4 := E3.out; have h5 := F3.out; omega); rintro e w8 ⟨rfl, hb, hs⟩; refine ⟨_, rfl, ?_⟩; have n0_ := q_ (Sim.trans HK.out hs (fun _ _ h_ => .inr (.inr (.inl h_.1)))); have n1_ := q_ (blk_kept BK.out hs.kept (fun h_ => Nat.not_lt.2 GE.out h_.2)); obtain ⟨x4, e4, _, g4⟩ := R_sim (rel := fun _ _ => True) hs O4.out (fun _ _ _ _ _ hm hc => sim72 hm hc); have G4 := q_ e4; clear HK HB BK O3 O4 hs e4 hc2_0 hc2_1 hc2_2 hc2_3 hc2_4 hf2_0 hf2_1 hf2_2 hf2_3 hf2_4; have HK := n0_; have BK := n1_; have HB := q_ hb; have O4 := q_ g4; clear n0_ n1_ hb g4; obtain ⟨hc3_0, hc3_1, hc3_2, hc3_3, hc3_4, hf3_0, hf3_1, hf3_2, hf3_3, hf3_4⟩ := cs5_ BK.out)
  | ((with_reducible refine gate_callee (f := 30) rfl ?_); refine goesL_ (some 20) rfl rfl Try.func30 (by kernel_rfl) rfl #[.slice A4 l0_4.length c4, .int .i64 (a1 + 2 * (l0_1.length : Int) + (y2.length : Int) + (cntL z3 : Int))] rfl z28_ ?_; (with_reducible refine (laws_markMsgS.mark _ _ x4 (a1 + 2 * (l0_1.length : Int) + (y2.length : Int) + (cntL z3 : Int)) w0 _ HB.out O4.out ?s0 ?s1).mono ?_); (case s0 => have h2 := HA.out; omega); (case s1 => have h2 := HA.out; have h3 := E2.out; have h4 := E3.out; have h5 := F3.out; have h6 := E4.out; have h7 := F4.out; have h8 := G4.out; omega); rintro e w9 ⟨rfl, hb, hs⟩; refine ⟨_, rfl, ?_⟩; have n0_ := q_ (Sim.trans HK.out hs (fun _ _ h_ => .inr (.inr (.inr h_.1)))); clear HK HB BK O4 hs; have HK := n0_; have HB := q_ hb; clear n0_ hb))
 go_ret
 have h3 := E2.out
 have h4 := E3.out
 have h5 := F3.out
 have h6 := E4.out
 have h7 := F4.out
 have h8 := G4.out
 rw [show a1 + 2 * (l0_1.length : Int) + (y2.length : Int) + (cntL z3 : Int) + 3 * (x4.length : Int) = a1 + 2 * (l0_1.length : Int) + (l0_2.length : Int) + (cntL l0_3 : Int) + 3 * (l0_4.length : Int) by omega]
 exact ⟨rfl, HB.out, HK.out.kept⟩

/-! ### laws_heldMsgS: function 31 -/
def laws_heldMsgS.l0 : Nat → List (S72) → Int → Int → Option (Int)
 | 0, _, _, _ => none
 | k + 1, x0, x1, x5 => if x5 < (x0.length : Int) then (if 0 ≤ x5 then (if ((rd_T72 x0 x5).f0) = x1 then (if ((rd_T72 x0 x5).f1) = (wrap64 (x1 + 1)) then (if ((rd_T72 x0 x5).f2) = (wrap64 ((wrap64 (x1 + 1)) + 1)) then (laws_heldMsgS.l0 k x0 (wrap64 ((wrap64 ((wrap64 (x1 + 1)) + 1)) + 1)) (wrap64 (x5 + 1))) else (some (-1))) else (some (-1))) else (some (-1))) else (none)) else (some x1)
def laws_heldMsgS.f (k : Nat) (l0 : List (S72)) (a1 : Int) : Option (Int) := laws_heldMsgS.l0 k l0 a1 0
theorem laws_heldMsgS.mono_l : ∀ k, (∀ y0 y1 y2, LeO (laws_heldMsgS.l0 k y0 y1 y2) (laws_heldMsgS.l0 (k + 1) y0 y1 y2))
 | 0 => fun _ _ _ r h => by simp [laws_heldMsgS.l0] at h
 | k + 1 => by
  have ih0 := laws_heldMsgS.mono_l k
  ·intro y0 y1 y2
   unfold laws_heldMsgS.l0
   exact zm_
theorem laws_heldMsgS.mono : ∀ a0 a1 k, LeO (laws_heldMsgS.f k a0 a1) (laws_heldMsgS.f (k + 1) a0 a1) := by
 intro a0 a1 k
 have ih0 := laws_heldMsgS.mono_l k
 unfold laws_heldMsgS.f
 exact zm_
set_option maxHeartbeats 8000000 in
set_option maxRecDepth 100000 in
theorem laws_heldMsgS.calls (k : Nat) (A0 : Option Addr) (c0 : Nat) (l0 : List (S72)) (a1 : Int) (r : Int) (w : World) (hr0 : Kd.C k72 w A0 l0.length l0) (hc0 : l0.length ≤ c0) (h : laws_heldMsgS.f k l0 a1 = some r) :
  Calls Try.prog 31 #[.slice A0 l0.length c0, .int .i64 a1] w fun e w' => e = .returned (.int .i64 r) ∧ Drawn0 w w' := by
 have HR0 := q_ hr0
 have HC0 := q_ hc0
 clear hr0 hc0
 have H := h; clear h
 unfold laws_heldMsgS.f at H
 have H' := q_ H
 clear H
 go_enter Try.func31, Try.ntmps31
 go_wp2
 go_loopg [1, 5] k (fun kq v1 v5 w' => ∃ (x1_1 : Int) (x5_1 : Int), v1 = .int .i64 x1_1 ∧ v5 = .int .i64 x5_1 ∧ Aside0 (laws_heldMsgS.l0 kq l0 x1_1 x5_1 = some r) ∧ Aside0 (kq ≤ k) ∧ Drawn0 w w')
 case atStart => exact ⟨(a1), (0), z4_, z4_, H', ⟨Nat.le_refl _⟩, z8_⟩
 case round =>
  clear H'
  try clear p2
  obtain ⟨x1_1, x5_1, rfl, rfl, HA, HK1, ⟨m1, rfl⟩⟩ := hrel
  obtain ⟨k1, rfl, H⟩ := rn_ (k := gk) HA (by rintro rfl; simp only [laws_heldMsgS.l0])
  clear HA
  simp only [laws_heldMsgS.l0] at H
  replace H := kd_ H; rcases H with ⟨c3b0, H⟩ | ⟨c3b0, H⟩
  ·replace H := kdn_ H; obtain ⟨c4b0, H⟩ := H
   replace H := ke_ H; rcases H with ⟨c5b0, c5b1, H⟩ | ⟨c5, c5b0, c5b1, H⟩
   ·replace H := ke_ H; rcases H with ⟨c6b0, c6b1, H⟩ | ⟨c6, c6b0, c6b1, H⟩
    ·replace H := ke_ H; rcases H with ⟨c7b0, c7b1, H⟩ | ⟨c7, c7b0, c7b1, H⟩
     ·have H' := q_ H
      clear H
      have p315 : 0 ≤ (x5_1 : Int) := of_decide_eq_true z2_
      have q315 : x5_1 < (l0.length : Int) := of_decide_eq_true z2_
      obtain ⟨ad315, e315, hx315_0, hx315_1, hx315_2⟩ := at_T72 HR0.out x5_1 p315 q315
      cases e315
      replace p315 := eq_true p315
      replace q315 := eq_true q315
      have p316 : 0 ≤ (x5_1 : Int) := of_decide_eq_true z2_
      have q316 : x5_1 < (l0.length : Int) := of_decide_eq_true z2_
      obtain ⟨ad316, e316, hx316_0, hx316_1, hx316_2⟩ := at_T72 HR0.out x5_1 p316 q316
      obtain rfl : ad315 = ad316 := (by injection e316)
      replace p316 := eq_true p316
      replace q316 := eq_true q316
      have p317 : 0 ≤ (x5_1 : Int) := of_decide_eq_true z2_
      have q317 : x5_1 < (l0.length : Int) := of_decide_eq_true z2_
      obtain ⟨ad317, e317, hx317_0, hx317_1, hx317_2⟩ := at_T72 HR0.out x5_1 p317 q317
      obtain rfl : ad315 = ad317 := (by injection e317)
      replace p317 := eq_true p317
      replace q317 := eq_true q317
      go_wp2
      go_roundg k1
      case measure => have := HK1.out; omega
      case rel => exact ⟨(wrap64 ((wrap64 ((wrap64 (x1_1 + 1)) + 1)) + 1)), (wrap64 (x5_1 + 1)), z4_, z4_, H', ⟨z26_⟩, z8_⟩
     ·obtain rfl := si_ H
      have p315 : 0 ≤ (x5_1 : Int) := of_decide_eq_true z2_
      have q315 : x5_1 < (l0.length : Int) := of_decide_eq_true z2_
      obtain ⟨ad315, e315, hx315_0, hx315_1, hx315_2⟩ := at_T72 HR0.out x5_1 p315 q315
      cases e315
      replace p315 := eq_true p315
      replace q315 := eq_true q315
      have p316 : 0 ≤ (x5_1 : Int) := of_decide_eq_true z2_
      have q316 : x5_1 < (l0.length : Int) := of_decide_eq_true z2_
      obtain ⟨ad316, e316, hx316_0, hx316_1, hx316_2⟩ := at_T72 HR0.out x5_1 p316 q316
      obtain rfl : ad315 = ad316 := (by injection e316)
      replace p316 := eq_true p316
      replace q316 := eq_true q316
      have p317 : 0 ≤ (x5_1 : Int) := of_decide_eq_true z2_
      have q317 : x5_1 < (l0.length : Int) := of_decide_eq_true z2_
      obtain ⟨ad317, e317, hx317_0, hx317_1, hx317_2⟩ := at_T72 HR0.out x5_1 p317 q317
      obtain rfl : ad315 = ad317 := (by injection e317)
      replace p317 := eq_true p317
      replace q317 := eq_true q317
      go_wp2
      go_ret
      exact ⟨z4_, z8_⟩
    ·obtain rfl := si_ H
     have p315 : 0 ≤ (x5_1 : Int) := of_decide_eq_true z2_
     have q315 : x5_1 < (l0.length : Int) := of_decide_eq_true z2_
     obtain ⟨ad315, e315, hx315_0, hx315_1, hx315_2⟩ := at_T72 HR0.out x5_1 p315 q315
     cases e315
     replace p315 := eq_true p315
     replace q315 := eq_true q315
     have p316 : 0 ≤ (x5_1 : Int) := of_decide_eq_true z2_
     have q316 : x5_1 < (l0.length : Int) := of_decide_eq_true z2_
     obtain ⟨ad316, e316, hx316_0, hx316_1, hx316_2⟩ := at_T72 HR0.out x5_1 p316 q316
     obtain rfl : ad315 = ad316 := (by injection e316)
     replace p316 := eq_true p316
     replace q316 := eq_true q316
     go_wp2
     go_ret
     exact ⟨z4_, z8_⟩
   ·obtain rfl := si_ H
    have p315 : 0 ≤ (x5_1 : Int) := of_decide_eq_true z2_
    have q315 : x5_1 < (l0.length : Int) := of_decide_eq_true z2_
    obtain ⟨ad315, e315, hx315_0, hx315_1, hx315_2⟩ := at_T72 HR0.out x5_1 p315 q315
    cases e315
    replace p315 := eq_true p315
    replace q315 := eq_true q315
    go_wp2
    go_ret
    exact ⟨z4_, z8_⟩
  ·obtain rfl := si_ H
   go_wp2
   go_ret
   exact ⟨z4_, z8_⟩

end Go.Proofs.Ytfnndcpaldkkoaa.PFnExactPending
