-- Written by a program of this session, which goes by the kit's print. Not trusted: Lean checks it.
import Derived.Test.YtphlmbhjeoljoaaPFnShrunkx0
import Derived.Test.YtphlmbhjeoljoaaPFnShrunkx5
namespace Go.Proofs.Ytphlmbhjeoljoaa.PFnShrunk
open Go.RowKit Go.Proofs.YtphlmbhjeoljoaaW.PrintWords Go.Proofs.YtphlmbhjeoljoaaW.PrintLast Go.Proofs.YtphlmbhjeoljoaaW.PrintMore
attribute [local go_sem] max2_int min2_int max_two min_two max_three min_three max_four min_four   -- for this text's walks alone
set_option linter.unusedVariables false
set_option linter.unusedSimpArgs false

/-! ### impl_MapOk: function 57 -/
def impl_MapOk.l0 : Nat → List (S147) → List (S147) → Int → Int → Option (Bool)
 | 0, _, _, _, _ => none
 | k + 1, x0, x5, x6, x7 => if x7 < x6 then (if 0 ≤ x7 then (if x7 < (x5.length : Int) then ((impl_isKey.f ((rd_T147 x5 x7).f0)).bind fun t196 => (if t196 = true then ((impl_isNum.f ((rd_T147 x5 x7).f1)).bind fun t197 => (if t197 = true then (if x7 > 0 then (if 0 ≤ (wrap64 (x7 - 1)) then (if (wrap64 (x7 - 1)) < (x0.length : Int) then (if ((rd_T147 x0 (wrap64 (x7 - 1))).f0) ≥ ((rd_T147 x5 x7).f0) then (some false) else (impl_MapOk.l0 k x0 x5 x6 (wrap64 (x7 + 1)))) else (none)) else (none)) else (impl_MapOk.l0 k x0 x5 x6 (wrap64 (x7 + 1)))) else (some false))) else (some false))) else (none)) else (none)) else (some true)
def impl_MapOk.f (k : Nat) (l0 : List (S147)) : Option (Bool) := impl_MapOk.l0 k l0 l0 (l0.length : Int) 0
theorem impl_MapOk.mono_l : ∀ k, (∀ y0 y1 y2 y3, LeO (impl_MapOk.l0 k y0 y1 y2 y3) (impl_MapOk.l0 (k + 1) y0 y1 y2 y3))
 | 0 => fun _ _ _ _ r h => by simp [impl_MapOk.l0] at h
 | k + 1 => by
  have ih0 := impl_MapOk.mono_l k
  ·intro y0 y1 y2 y3
   unfold impl_MapOk.l0
   repeat' first
   | (with_reducible exact ih0 _ _ _ _)
   | (with_reducible exact LeO.refl _)
   | (with_reducible exact LeO.none _)
   | (with_reducible refine LeO.ite ?_ ?_)
   | (with_reducible refine LeO.bind ?_ (fun _ => ?_))
   | exact ih0 _ _ _ _
   | exact LeO.none _
   | refine LeO.ite ?_ ?_
   | refine LeO.bind ?_ (fun _ => ?_)
theorem impl_MapOk.mono : ∀ a0 k, LeO (impl_MapOk.f k a0) (impl_MapOk.f (k + 1) a0) := by
 intro a0 k
 have ih0 := impl_MapOk.mono_l k
 unfold impl_MapOk.f
 repeat' first
   | (with_reducible exact ih0 _ _ _ _)
   | (with_reducible exact LeO.refl _)
   | (with_reducible exact LeO.none _)
   | (with_reducible refine LeO.ite ?_ ?_)
   | (with_reducible refine LeO.bind ?_ (fun _ => ?_))
   | exact ih0 _ _ _ _
   | exact LeO.none _
   | refine LeO.ite ?_ ?_
   | refine LeO.bind ?_ (fun _ => ?_)
set_option maxHeartbeats 8000000 in
set_option maxRecDepth 100000 in
theorem impl_MapOk.calls (k : Nat) (A0 : Option Addr) (c0 : Nat) (l0 : List (S147)) (r : Bool) (w : World) (hr0 : Kd.C k147 w A0 l0.length l0) (hc0 : l0.length ≤ c0) (h : impl_MapOk.f k l0 = some r) :
  Calls Try.prog 57 #[.slice A0 l0.length c0] w fun e w' => e = .returned (.bool r) ∧ Below w.heap.size w w' := by
 have hu147 := Try.underlying147
 have HR0 := q_ hr0
 have HC0 := q_ hc0
 clear hr0 hc0
 have HB := q_ (Below.refl w.heap.size w)
 have H : (impl_MapOk.l0 k l0 l0 (l0.length : Int) 0) = some r := h
 clear h
 have H' := q_ H
 clear H
 go_enter Try.func57, Try.ntmps57
 go_wp2
 repeat (go_quiet (fail); try go_wp2)
 go_loopg [7] k (fun kq v7 w' => ∃ (x7_1 : Int), v7 = .int .i64 x7_1 ∧ Aside0 (impl_MapOk.l0 kq l0 l0 (l0.length : Int) x7_1 = some r) ∧ Aside0 (kq ≤ k) ∧ Aside0 (Below w.heap.size w w'))
 case atStart => exact ⟨(0), z7_, H', ⟨Nat.le_refl _⟩, ⟨z0_⟩⟩
 case round =>
  clear H'
  obtain ⟨x7_1, rfl, HA, HK1, HB⟩ := hrel
  cases gk with
  | zero => exact absurd HA.out (by simp [impl_MapOk.l0])
  | succ k1 =>
   have H := HA.out
   clear HA
   simp only [impl_MapOk.l0] at H
   by_cases c2 : x7_1 < (l0.length : Int)
   ·rw [if_pos c2] at H
    have c2b0 : decide (x7_1 < (l0.length : Int)) = true := decide_eq_true c2
    clear c2
    by_cases c3 : 0 ≤ x7_1
    ·rw [if_pos c3] at H
     have c3b0 : decide (0 ≤ x7_1) = true := decide_eq_true c3
     clear c3
     by_cases c4 : x7_1 < (l0.length : Int)
     ·rw [if_pos c4] at H
      have c4b0 : decide (x7_1 < (l0.length : Int)) = true := decide_eq_true c4
      clear c4
      replace H := Option.bind_eq_some_iff.mp H
      obtain ⟨t196, A50, H⟩ := H
      replace H : (if t196 = true then ((impl_isNum.f ((rd_T147 l0 x7_1).f1)).bind fun t197 => (if t197 = true then (if x7_1 > 0 then (if 0 ≤ (wrap64 (x7_1 - 1)) then (if (wrap64 (x7_1 - 1)) < (l0.length : Int) then (if ((rd_T147 l0 (wrap64 (x7_1 - 1))).f0) ≥ ((rd_T147 l0 x7_1).f0) then (some false) else (impl_MapOk.l0 k1 l0 l0 (l0.length : Int) (wrap64 (x7_1 + 1)))) else (none)) else (none)) else (impl_MapOk.l0 k1 l0 l0 (l0.length : Int) (wrap64 (x7_1 + 1)))) else (some false))) else (some false)) = some r := H
      have A5 := q_ A50
      clear A50
      by_cases c6 : t196 = true
      ·subst c6
       have H1 : ((impl_isNum.f ((rd_T147 l0 x7_1).f1)).bind fun t197 => (if t197 = true then (if x7_1 > 0 then (if 0 ≤ (wrap64 (x7_1 - 1)) then (if (wrap64 (x7_1 - 1)) < (l0.length : Int) then (if ((rd_T147 l0 (wrap64 (x7_1 - 1))).f0) ≥ ((rd_T147 l0 x7_1).f0) then (some false) else (impl_MapOk.l0 k1 l0 l0 (l0.length : Int) (wrap64 (x7_1 + 1)))) else (none)) else (none)) else (impl_MapOk.l0 k1 l0 l0 (l0.length : Int) (wrap64 (x7_1 + 1)))) else (some false))) = some r := z58_
       clear H
       have H := H1
       clear H1
       replace H := Option.bind_eq_some_iff.mp H
       obtain ⟨t197, A70, H⟩ := H
       replace H : (if t197 = true then (if x7_1 > 0 then (if 0 ≤ (wrap64 (x7_1 - 1)) then (if (wrap64 (x7_1 - 1)) < (l0.length : Int) then (if ((rd_T147 l0 (wrap64 (x7_1 - 1))).f0) ≥ ((rd_T147 l0 x7_1).f0) then (some false) else (impl_MapOk.l0 k1 l0 l0 (l0.length : Int) (wrap64 (x7_1 + 1)))) else (none)) else (none)) else (impl_MapOk.l0 k1 l0 l0 (l0.length : Int) (wrap64 (x7_1 + 1)))) else (some false)) = some r := H
       have A7 := q_ A70
       clear A70
       by_cases c8 : t197 = true
       ·subst c8
        have H1 : (if x7_1 > 0 then (if 0 ≤ (wrap64 (x7_1 - 1)) then (if (wrap64 (x7_1 - 1)) < (l0.length : Int) then (if ((rd_T147 l0 (wrap64 (x7_1 - 1))).f0) ≥ ((rd_T147 l0 x7_1).f0) then (some false) else (impl_MapOk.l0 k1 l0 l0 (l0.length : Int) (wrap64 (x7_1 + 1)))) else (none)) else (none)) else (impl_MapOk.l0 k1 l0 l0 (l0.length : Int) (wrap64 (x7_1 + 1)))) = some r := z58_
        clear H
        have H := H1
        clear H1
        by_cases c9 : x7_1 > 0
        ·rw [if_pos c9] at H
         have c9b0 : decide (0 < x7_1) = true := decide_eq_true c9
         clear c9
         obtain ⟨ji10, hji10⟩ : ∃ j_ : Int, (wrap64 (x7_1 - 1)) = j_ := ⟨_, rfl⟩
         replace H : (if 0 ≤ (ji10) then (if (ji10) < (l0.length : Int) then (if ((rd_T147 l0 (ji10)).f0) ≥ ((rd_T147 l0 x7_1).f0) then (some false) else (impl_MapOk.l0 k1 l0 l0 (l0.length : Int) (wrap64 (x7_1 + 1)))) else (none)) else (none)) = some r := by first | (rw [hji10] at H; exact H) | (simp only [hji10] at H ⊢; exact H)
         (try rw [hji10] at A5)
         (try rw [hji10] at A7)
         have hji10w : (IntKind.i64.wrap (x7_1 - 1)) = ji10 := (i64_w _).trans hji10
         by_cases c11 : 0 ≤ (ji10)
         ·rw [if_pos c11] at H
          have c11b0 : decide (0 ≤ (ji10)) = true := decide_eq_true c11
          clear c11
          by_cases c12 : (ji10) < (l0.length : Int)
          ·rw [if_pos c12] at H
           have c12b0 : decide ((ji10) < (l0.length : Int)) = true := decide_eq_true c12
           clear c12
           by_cases c13 : ((rd_T147 l0 (ji10)).f0) ≥ ((rd_T147 l0 x7_1).f0)
           ·rw [if_pos c13] at H
            have c13b0 : decide (((rd_T147 l0 x7_1).f0) ≤ ((rd_T147 l0 (ji10)).f0)) = true := decide_eq_true c13
            clear c13
            obtain rfl := Option.some.inj H
            have p194 : 0 ≤ (x7_1 : Int) := of_decide_eq_true z3_
            have q194 : x7_1 < (l0.length : Int) := of_decide_eq_true z3_
            obtain ⟨ad194, e194, hx194_0, hx194_1⟩ := at_T147 HR0.out x7_1 p194 q194
            cases e194
            replace hx194_0 := up_ HB hx194_0
            replace hx194_1 := up_ HB hx194_1
            replace p194 := eq_true p194
            replace q194 := eq_true q194
            go_wp2_with (first | ((with_reducible refine gate_dst (N := 4) rfl ?_); refine box_event ?hg (N := 4) ?hd (cs := #[.int .i64 0, .int .i64 0]) (t := 147) ?hr ?_; (case hd => rfl); (case hg => rfl); (case hr => exact z148_); intro gb195 hg w14 hbox hb; have n0_ := q_ (below_step z0_ hb); have n1_ := q_ (hbox); have n2_ := q_ ((z119_ : w.heap.size ≤ gb195)); have n3_ := q_ ((z119_ : w.heap.size ≤ gb195)); clear HB; have HB := n0_; have BK195 := n1_; have GW195 := n2_; have GE195 := n3_; clear n0_ n1_ n2_ n3_; clear hb hbox hg; obtain ⟨hcz15_0, hcz15_1, hfz15_0, hfz15_1⟩ := cs2_ BK195.out) | (go_at_call 136; (with_reducible refine (impl_isKey.calls ((rd_T147 l0 x7_1).f0) true _ A5.out).mono ?_); rintro e w' ⟨rfl, ⟨nd, rfl⟩⟩; (try first | exact ⟨rfl, _, World.drewN_drewN _ _ _⟩ | exact ⟨rfl, _, Eq.trans (World.drewN_drewN _ _ _) (congrArg (World.drewN _) (Nat.add_assoc _ _ _))⟩)) | (go_at_call 137; (with_reducible refine (impl_isNum.calls ((rd_T147 l0 x7_1).f1) true _ A7.out).mono ?_); rintro e w' ⟨rfl, ⟨nd, rfl⟩⟩; (try first | exact ⟨rfl, _, World.drewN_drewN _ _ _⟩ | exact ⟨rfl, _, Eq.trans (World.drewN_drewN _ _ _) (congrArg (World.drewN _) (Nat.add_assoc _ _ _))⟩); have p198 : 0 ≤ ((ji10) : Int) := of_decide_eq_true z3_; have q198 : (ji10) < (l0.length : Int) := of_decide_eq_true z3_; obtain ⟨ad198, e198, hx198_0, hx198_1⟩ := at_T147 HR0.out (ji10) p198 q198; obtain rfl : ad194 = ad198 := z118_; have hn198_0 : ad194.block ≠ gb195 := Nat.ne_of_lt (Nat.lt_of_lt_of_le (by have := World.block_lt_of_cell? _ _ hx198_0; first | rwa [add_block] at this | exact this) GW195.out); have hn198_1 : ad194.block ≠ gb195 := Nat.ne_of_lt (Nat.lt_of_lt_of_le (by have := World.block_lt_of_cell? _ _ hx198_0; first | rwa [add_block] at this | exact this) GW195.out); replace hx198_0 := up_ HB hx198_0; replace hx198_1 := up_ HB hx198_1; replace hx198_0 := (cell_far (p := ⟨gb195, 0, none⟩) z37_ (.int .i64 ((rd_T147 l0 x7_1).f0))).trans hx198_0; replace hx198_1 := (cell_far (p := ⟨gb195, 0, none⟩) z37_ (.int .i64 ((rd_T147 l0 x7_1).f0))).trans hx198_1; replace hx198_0 := (cell_far (p := ⟨gb195, 1, none⟩) z38_ (.int .i64 ((rd_T147 l0 x7_1).f1))).trans hx198_0; replace hx198_1 := (cell_far (p := ⟨gb195, 1, none⟩) z38_ (.int .i64 ((rd_T147 l0 x7_1).f1))).trans hx198_1; (try have hy198_0 := fun (n_ : Nat) => (show ((((w14.drewN n_).setCell ⟨gb195, 0, none⟩ (.int .i64 ((rd_T147 l0 x7_1).f0))).setCell ⟨gb195, 1, none⟩ (.int .i64 ((rd_T147 l0 x7_1).f1)))).cell? _ = some _ from hx198_0)); (try have hy198_1 := fun (n_ : Nat) => (show ((((w14.drewN n_).setCell ⟨gb195, 0, none⟩ (.int .i64 ((rd_T147 l0 x7_1).f0))).setCell ⟨gb195, 1, none⟩ (.int .i64 ((rd_T147 l0 x7_1).f1)))).cell? _ = some _ from hx198_1)); clear hn198_0; clear hn198_1; replace p198 := eq_true p198; replace q198 := eq_true q198))
            repeat (go_quiet (first | ((with_reducible refine gate_dst (N := 4) rfl ?_); refine box_event ?hg (N := 4) ?hd (cs := #[.int .i64 0, .int .i64 0]) (t := 147) ?hr ?_; (case hd => rfl); (case hg => rfl); (case hr => exact z148_); intro gb195 hg w14 hbox hb; have n0_ := q_ (below_step z0_ hb); have n1_ := q_ (hbox); have n2_ := q_ ((z119_ : w.heap.size ≤ gb195)); have n3_ := q_ ((z119_ : w.heap.size ≤ gb195)); clear HB; have HB := n0_; have BK195 := n1_; have GW195 := n2_; have GE195 := n3_; clear n0_ n1_ n2_ n3_; clear hb hbox hg; obtain ⟨hcz15_0, hcz15_1, hfz15_0, hfz15_1⟩ := cs2_ BK195.out) | (go_at_call 136; (with_reducible refine (impl_isKey.calls ((rd_T147 l0 x7_1).f0) true _ A5.out).mono ?_); rintro e w' ⟨rfl, ⟨nd, rfl⟩⟩; (try first | exact ⟨rfl, _, World.drewN_drewN _ _ _⟩ | exact ⟨rfl, _, Eq.trans (World.drewN_drewN _ _ _) (congrArg (World.drewN _) (Nat.add_assoc _ _ _))⟩)) | (go_at_call 137; (with_reducible refine (impl_isNum.calls ((rd_T147 l0 x7_1).f1) true _ A7.out).mono ?_); rintro e w' ⟨rfl, ⟨nd, rfl⟩⟩; (try first | exact ⟨rfl, _, World.drewN_drewN _ _ _⟩ | exact ⟨rfl, _, Eq.trans (World.drewN_drewN _ _ _) (congrArg (World.drewN _) (Nat.add_assoc _ _ _))⟩); have p198 : 0 ≤ ((ji10) : Int) := of_decide_eq_true z3_; have q198 : (ji10) < (l0.length : Int) := of_decide_eq_true z3_; obtain ⟨ad198, e198, hx198_0, hx198_1⟩ := at_T147 HR0.out (ji10) p198 q198; obtain rfl : ad194 = ad198 := z118_; have hn198_0 : ad194.block ≠ gb195 := Nat.ne_of_lt (Nat.lt_of_lt_of_le (by have := World.block_lt_of_cell? _ _ hx198_0; first | rwa [add_block] at this | exact this) GW195.out); have hn198_1 : ad194.block ≠ gb195 := Nat.ne_of_lt (Nat.lt_of_lt_of_le (by have := World.block_lt_of_cell? _ _ hx198_0; first | rwa [add_block] at this | exact this) GW195.out); replace hx198_0 := up_ HB hx198_0; replace hx198_1 := up_ HB hx198_1; replace hx198_0 := (cell_far (p := ⟨gb195, 0, none⟩) z37_ (.int .i64 ((rd_T147 l0 x7_1).f0))).trans hx198_0; replace hx198_1 := (cell_far (p := ⟨gb195, 0, none⟩) z37_ (.int .i64 ((rd_T147 l0 x7_1).f0))).trans hx198_1; replace hx198_0 := (cell_far (p := ⟨gb195, 1, none⟩) z38_ (.int .i64 ((rd_T147 l0 x7_1).f1))).trans hx198_0; replace hx198_1 := (cell_far (p := ⟨gb195, 1, none⟩) z38_ (.int .i64 ((rd_T147 l0 x7_1).f1))).trans hx198_1; (try have hy198_0 := fun (n_ : Nat) => (show ((((w14.drewN n_).setCell ⟨gb195, 0, none⟩ (.int .i64 ((rd_T147 l0 x7_1).f0))).setCell ⟨gb195, 1, none⟩ (.int .i64 ((rd_T147 l0 x7_1).f1)))).cell? _ = some _ from hx198_0)); (try have hy198_1 := fun (n_ : Nat) => (show ((((w14.drewN n_).setCell ⟨gb195, 0, none⟩ (.int .i64 ((rd_T147 l0 x7_1).f0))).setCell ⟨gb195, 1, none⟩ (.int .i64 ((rd_T147 l0 x7_1).f1)))).cell? _ = some _ from hx198_1)); clear hn198_0; clear hn198_1; replace p198 := eq_true p198; replace q198 := eq_true q198)); try go_wp2_with (first | ((with_reducible refine gate_dst (N := 4) rfl ?_); refine box_event ?hg (N := 4) ?hd (cs := #[.int .i64 0, .int .i64 0]) (t := 147) ?hr ?_; (case hd => rfl); (case hg => rfl); (case hr => exact z148_); intro gb195 hg w14 hbox hb; have n0_ := q_ (below_step z0_ hb); have n1_ := q_ (hbox); have n2_ := q_ ((z119_ : w.heap.size ≤ gb195)); have n3_ := q_ ((z119_ : w.heap.size ≤ gb195)); clear HB; have HB := n0_; have BK195 := n1_; have GW195 := n2_; have GE195 := n3_; clear n0_ n1_ n2_ n3_; clear hb hbox hg; obtain ⟨hcz15_0, hcz15_1, hfz15_0, hfz15_1⟩ := cs2_ BK195.out) | (go_at_call 136; (with_reducible refine (impl_isKey.calls ((rd_T147 l0 x7_1).f0) true _ A5.out).mono ?_); rintro e w' ⟨rfl, ⟨nd, rfl⟩⟩; (try first | exact ⟨rfl, _, World.drewN_drewN _ _ _⟩ | exact ⟨rfl, _, Eq.trans (World.drewN_drewN _ _ _) (congrArg (World.drewN _) (Nat.add_assoc _ _ _))⟩)) | (go_at_call 137; (with_reducible refine (impl_isNum.calls ((rd_T147 l0 x7_1).f1) true _ A7.out).mono ?_); rintro e w' ⟨rfl, ⟨nd, rfl⟩⟩; (try first | exact ⟨rfl, _, World.drewN_drewN _ _ _⟩ | exact ⟨rfl, _, Eq.trans (World.drewN_drewN _ _ _) (congrArg (World.drewN _) (Nat.add_assoc _ _ _))⟩); have p198 : 0 ≤ ((ji10) : Int) := of_decide_eq_true z3_; have q198 : (ji10) < (l0.length : Int) := of_decide_eq_true z3_; obtain ⟨ad198, e198, hx198_0, hx198_1⟩ := at_T147 HR0.out (ji10) p198 q198; obtain rfl : ad194 = ad198 := z118_; have hn198_0 : ad194.block ≠ gb195 := Nat.ne_of_lt (Nat.lt_of_lt_of_le (by have := World.block_lt_of_cell? _ _ hx198_0; first | rwa [add_block] at this | exact this) GW195.out); have hn198_1 : ad194.block ≠ gb195 := Nat.ne_of_lt (Nat.lt_of_lt_of_le (by have := World.block_lt_of_cell? _ _ hx198_0; first | rwa [add_block] at this | exact this) GW195.out); replace hx198_0 := up_ HB hx198_0; replace hx198_1 := up_ HB hx198_1; replace hx198_0 := (cell_far (p := ⟨gb195, 0, none⟩) z37_ (.int .i64 ((rd_T147 l0 x7_1).f0))).trans hx198_0; replace hx198_1 := (cell_far (p := ⟨gb195, 0, none⟩) z37_ (.int .i64 ((rd_T147 l0 x7_1).f0))).trans hx198_1; replace hx198_0 := (cell_far (p := ⟨gb195, 1, none⟩) z38_ (.int .i64 ((rd_T147 l0 x7_1).f1))).trans hx198_0; replace hx198_1 := (cell_far (p := ⟨gb195, 1, none⟩) z38_ (.int .i64 ((rd_T147 l0 x7_1).f1))).trans hx198_1; (try have hy198_0 := fun (n_ : Nat) => (show ((((w14.drewN n_).setCell ⟨gb195, 0, none⟩ (.int .i64 ((rd_T147 l0 x7_1).f0))).setCell ⟨gb195, 1, none⟩ (.int .i64 ((rd_T147 l0 x7_1).f1)))).cell? _ = some _ from hx198_0)); (try have hy198_1 := fun (n_ : Nat) => (show ((((w14.drewN n_).setCell ⟨gb195, 0, none⟩ (.int .i64 ((rd_T147 l0 x7_1).f0))).setCell ⟨gb195, 1, none⟩ (.int .i64 ((rd_T147 l0 x7_1).f1)))).cell? _ = some _ from hx198_1)); clear hn198_0; clear hn198_1; replace p198 := eq_true p198; replace q198 := eq_true q198)))
            go_ret
            exact ⟨by first | rfl | (simp [errW_none, errW_some] <;> rfl) | (simp only [← hji10]; first | rfl | (simp [errW_none, errW_some] <;> rfl)) | (simp [*, errW_none, errW_some] <;> rfl), z68_⟩
           ·rw [if_neg c13] at H
            have c13b0 : decide (((rd_T147 l0 x7_1).f0) ≤ ((rd_T147 l0 (ji10)).f0)) = false := decide_eq_false c13
            clear c13
            have H' := q_ H
            clear H
            have p194 : 0 ≤ (x7_1 : Int) := of_decide_eq_true z3_
            have q194 : x7_1 < (l0.length : Int) := of_decide_eq_true z3_
            obtain ⟨ad194, e194, hx194_0, hx194_1⟩ := at_T147 HR0.out x7_1 p194 q194
            cases e194
            replace hx194_0 := up_ HB hx194_0
            replace hx194_1 := up_ HB hx194_1
            replace p194 := eq_true p194
            replace q194 := eq_true q194
            go_wp2_with (first | ((with_reducible refine gate_dst (N := 4) rfl ?_); refine box_event ?hg (N := 4) ?hd (cs := #[.int .i64 0, .int .i64 0]) (t := 147) ?hr ?_; (case hd => rfl); (case hg => rfl); (case hr => exact z148_); intro gb195 hg w16 hbox hb; have n0_ := q_ (below_step z0_ hb); have n1_ := q_ (hbox); have n2_ := q_ ((z119_ : w.heap.size ≤ gb195)); have n3_ := q_ ((z119_ : w.heap.size ≤ gb195)); clear HB; have HB := n0_; have BK195 := n1_; have GW195 := n2_; have GE195 := n3_; clear n0_ n1_ n2_ n3_; clear hb hbox hg; obtain ⟨hcz17_0, hcz17_1, hfz17_0, hfz17_1⟩ := cs2_ BK195.out) | (go_at_call 136; (with_reducible refine (impl_isKey.calls ((rd_T147 l0 x7_1).f0) true _ A5.out).mono ?_); rintro e w' ⟨rfl, ⟨nd, rfl⟩⟩; (try first | exact ⟨rfl, _, World.drewN_drewN _ _ _⟩ | exact ⟨rfl, _, Eq.trans (World.drewN_drewN _ _ _) (congrArg (World.drewN _) (Nat.add_assoc _ _ _))⟩)) | (go_at_call 137; (with_reducible refine (impl_isNum.calls ((rd_T147 l0 x7_1).f1) true _ A7.out).mono ?_); rintro e w' ⟨rfl, ⟨nd, rfl⟩⟩; (try first | exact ⟨rfl, _, World.drewN_drewN _ _ _⟩ | exact ⟨rfl, _, Eq.trans (World.drewN_drewN _ _ _) (congrArg (World.drewN _) (Nat.add_assoc _ _ _))⟩); have p198 : 0 ≤ ((ji10) : Int) := of_decide_eq_true z3_; have q198 : (ji10) < (l0.length : Int) := of_decide_eq_true z3_; obtain ⟨ad198, e198, hx198_0, hx198_1⟩ := at_T147 HR0.out (ji10) p198 q198; obtain rfl : ad194 = ad198 := z118_; have hn198_0 : ad194.block ≠ gb195 := Nat.ne_of_lt (Nat.lt_of_lt_of_le (by have := World.block_lt_of_cell? _ _ hx198_0; first | rwa [add_block] at this | exact this) GW195.out); have hn198_1 : ad194.block ≠ gb195 := Nat.ne_of_lt (Nat.lt_of_lt_of_le (by have := World.block_lt_of_cell? _ _ hx198_0; first | rwa [add_block] at this | exact this) GW195.out); replace hx198_0 := up_ HB hx198_0; replace hx198_1 := up_ HB hx198_1; replace hx198_0 := (cell_far (p := ⟨gb195, 0, none⟩) z37_ (.int .i64 ((rd_T147 l0 x7_1).f0))).trans hx198_0; replace hx198_1 := (cell_far (p := ⟨gb195, 0, none⟩) z37_ (.int .i64 ((rd_T147 l0 x7_1).f0))).trans hx198_1; replace hx198_0 := (cell_far (p := ⟨gb195, 1, none⟩) z38_ (.int .i64 ((rd_T147 l0 x7_1).f1))).trans hx198_0; replace hx198_1 := (cell_far (p := ⟨gb195, 1, none⟩) z38_ (.int .i64 ((rd_T147 l0 x7_1).f1))).trans hx198_1; (try have hy198_0 := fun (n_ : Nat) => (show ((((w16.drewN n_).setCell ⟨gb195, 0, none⟩ (.int .i64 ((rd_T147 l0 x7_1).f0))).setCell ⟨gb195, 1, none⟩ (.int .i64 ((rd_T147 l0 x7_1).f1)))).cell? _ = some _ from hx198_0)); (try have hy198_1 := fun (n_ : Nat) => (show ((((w16.drewN n_).setCell ⟨gb195, 0, none⟩ (.int .i64 ((rd_T147 l0 x7_1).f0))).setCell ⟨gb195, 1, none⟩ (.int .i64 ((rd_T147 l0 x7_1).f1)))).cell? _ = some _ from hx198_1)); clear hn198_0; clear hn198_1; replace p198 := eq_true p198; replace q198 := eq_true q198))
            repeat (go_quiet (first | ((with_reducible refine gate_dst (N := 4) rfl ?_); refine box_event ?hg (N := 4) ?hd (cs := #[.int .i64 0, .int .i64 0]) (t := 147) ?hr ?_; (case hd => rfl); (case hg => rfl); (case hr => exact z148_); intro gb195 hg w16 hbox hb; have n0_ := q_ (below_step z0_ hb); have n1_ := q_ (hbox); have n2_ := q_ ((z119_ : w.heap.size ≤ gb195)); have n3_ := q_ ((z119_ : w.heap.size ≤ gb195)); clear HB; have HB := n0_; have BK195 := n1_; have GW195 := n2_; have GE195 := n3_; clear n0_ n1_ n2_ n3_; clear hb hbox hg; obtain ⟨hcz17_0, hcz17_1, hfz17_0, hfz17_1⟩ := cs2_ BK195.out) | (go_at_call 136; (with_reducible refine (impl_isKey.calls ((rd_T147 l0 x7_1).f0) true _ A5.out).mono ?_); rintro e w' ⟨rfl, ⟨nd, rfl⟩⟩; (try first | exact ⟨rfl, _, World.drewN_drewN _ _ _⟩ | exact ⟨rfl, _, Eq.trans (World.drewN_drewN _ _ _) (congrArg (World.drewN _) (Nat.add_assoc _ _ _))⟩)) | (go_at_call 137; (with_reducible refine (impl_isNum.calls ((rd_T147 l0 x7_1).f1) true _ A7.out).mono ?_); rintro e w' ⟨rfl, ⟨nd, rfl⟩⟩; (try first | exact ⟨rfl, _, World.drewN_drewN _ _ _⟩ | exact ⟨rfl, _, Eq.trans (World.drewN_drewN _ _ _) (congrArg (World.drewN _) (Nat.add_assoc _ _ _))⟩); have p198 : 0 ≤ ((ji10) : Int) := of_decide_eq_true z3_; have q198 : (ji10) < (l0.length : Int) := of_decide_eq_true z3_; obtain ⟨ad198, e198, hx198_0, hx198_1⟩ := at_T147 HR0.out (ji10) p198 q198; obtain rfl : ad194 = ad198 := z118_; have hn198_0 : ad194.block ≠ gb195 := Nat.ne_of_lt (Nat.lt_of_lt_of_le (by have := World.block_lt_of_cell? _ _ hx198_0; first | rwa [add_block] at this | exact this) GW195.out); have hn198_1 : ad194.block ≠ gb195 := Nat.ne_of_lt (Nat.lt_of_lt_of_le (by have := World.block_lt_of_cell? _ _ hx198_0; first | rwa [add_block] at this | exact this) GW195.out); replace hx198_0 := up_ HB hx198_0; replace hx198_1 := up_ HB hx198_1; replace hx198_0 := (cell_far (p := ⟨gb195, 0, none⟩) z37_ (.int .i64 ((rd_T147 l0 x7_1).f0))).trans hx198_0; replace hx198_1 := (cell_far (p := ⟨gb195, 0, none⟩) z37_ (.int .i64 ((rd_T147 l0 x7_1).f0))).trans hx198_1; replace hx198_0 := (cell_far (p := ⟨gb195, 1, none⟩) z38_ (.int .i64 ((rd_T147 l0 x7_1).f1))).trans hx198_0; replace hx198_1 := (cell_far (p := ⟨gb195, 1, none⟩) z38_ (.int .i64 ((rd_T147 l0 x7_1).f1))).trans hx198_1; (try have hy198_0 := fun (n_ : Nat) => (show ((((w16.drewN n_).setCell ⟨gb195, 0, none⟩ (.int .i64 ((rd_T147 l0 x7_1).f0))).setCell ⟨gb195, 1, none⟩ (.int .i64 ((rd_T147 l0 x7_1).f1)))).cell? _ = some _ from hx198_0)); (try have hy198_1 := fun (n_ : Nat) => (show ((((w16.drewN n_).setCell ⟨gb195, 0, none⟩ (.int .i64 ((rd_T147 l0 x7_1).f0))).setCell ⟨gb195, 1, none⟩ (.int .i64 ((rd_T147 l0 x7_1).f1)))).cell? _ = some _ from hx198_1)); clear hn198_0; clear hn198_1; replace p198 := eq_true p198; replace q198 := eq_true q198)); try go_wp2_with (first | ((with_reducible refine gate_dst (N := 4) rfl ?_); refine box_event ?hg (N := 4) ?hd (cs := #[.int .i64 0, .int .i64 0]) (t := 147) ?hr ?_; (case hd => rfl); (case hg => rfl); (case hr => exact z148_); intro gb195 hg w16 hbox hb; have n0_ := q_ (below_step z0_ hb); have n1_ := q_ (hbox); have n2_ := q_ ((z119_ : w.heap.size ≤ gb195)); have n3_ := q_ ((z119_ : w.heap.size ≤ gb195)); clear HB; have HB := n0_; have BK195 := n1_; have GW195 := n2_; have GE195 := n3_; clear n0_ n1_ n2_ n3_; clear hb hbox hg; obtain ⟨hcz17_0, hcz17_1, hfz17_0, hfz17_1⟩ := cs2_ BK195.out) | (go_at_call 136; (with_reducible refine (impl_isKey.calls ((rd_T147 l0 x7_1).f0) true _ A5.out).mono ?_); rintro e w' ⟨rfl, ⟨nd, rfl⟩⟩; (try first | exact ⟨rfl, _, World.drewN_drewN _ _ _⟩ | exact ⟨rfl, _, Eq.trans (World.drewN_drewN _ _ _) (congrArg (World.drewN _) (Nat.add_assoc _ _ _))⟩)) | (go_at_call 137; (with_reducible refine (impl_isNum.calls ((rd_T147 l0 x7_1).f1) true _ A7.out).mono ?_); rintro e w' ⟨rfl, ⟨nd, rfl⟩⟩; (try first | exact ⟨rfl, _, World.drewN_drewN _ _ _⟩ | exact ⟨rfl, _, Eq.trans (World.drewN_drewN _ _ _) (congrArg (World.drewN _) (Nat.add_assoc _ _ _))⟩); have p198 : 0 ≤ ((ji10) : Int) := of_decide_eq_true z3_; have q198 : (ji10) < (l0.length : Int) := of_decide_eq_true z3_; obtain ⟨ad198, e198, hx198_0, hx198_1⟩ := at_T147 HR0.out (ji10) p198 q198; obtain rfl : ad194 = ad198 := z118_; have hn198_0 : ad194.block ≠ gb195 := Nat.ne_of_lt (Nat.lt_of_lt_of_le (by have := World.block_lt_of_cell? _ _ hx198_0; first | rwa [add_block] at this | exact this) GW195.out); have hn198_1 : ad194.block ≠ gb195 := Nat.ne_of_lt (Nat.lt_of_lt_of_le (by have := World.block_lt_of_cell? _ _ hx198_0; first | rwa [add_block] at this | exact this) GW195.out); replace hx198_0 := up_ HB hx198_0; replace hx198_1 := up_ HB hx198_1; replace hx198_0 := (cell_far (p := ⟨gb195, 0, none⟩) z37_ (.int .i64 ((rd_T147 l0 x7_1).f0))).trans hx198_0; replace hx198_1 := (cell_far (p := ⟨gb195, 0, none⟩) z37_ (.int .i64 ((rd_T147 l0 x7_1).f0))).trans hx198_1; replace hx198_0 := (cell_far (p := ⟨gb195, 1, none⟩) z38_ (.int .i64 ((rd_T147 l0 x7_1).f1))).trans hx198_0; replace hx198_1 := (cell_far (p := ⟨gb195, 1, none⟩) z38_ (.int .i64 ((rd_T147 l0 x7_1).f1))).trans hx198_1; (try have hy198_0 := fun (n_ : Nat) => (show ((((w16.drewN n_).setCell ⟨gb195, 0, none⟩ (.int .i64 ((rd_T147 l0 x7_1).f0))).setCell ⟨gb195, 1, none⟩ (.int .i64 ((rd_T147 l0 x7_1).f1)))).cell? _ = some _ from hx198_0)); (try have hy198_1 := fun (n_ : Nat) => (show ((((w16.drewN n_).setCell ⟨gb195, 0, none⟩ (.int .i64 ((rd_T147 l0 x7_1).f0))).setCell ⟨gb195, 1, none⟩ (.int .i64 ((rd_T147 l0 x7_1).f1)))).cell? _ = some _ from hx198_1)); clear hn198_0; clear hn198_1; replace p198 := eq_true p198; replace q198 := eq_true q198)))
            go_roundg k1
            case measure => have := HK1.out; omega
            case rel => exact ⟨(wrap64 (x7_1 + 1)), z7_, H', ⟨z74_⟩, ⟨z68_⟩⟩
          ·rw [if_neg c12] at H
           exact absurd H (by simp)
         ·rw [if_neg c11] at H
          exact absurd H (by simp)
        ·rw [if_neg c9] at H
         have c9b0 : decide (0 < x7_1) = false := decide_eq_false c9
         clear c9
         have H' := q_ H
         clear H
         have p194 : 0 ≤ (x7_1 : Int) := of_decide_eq_true z3_
         have q194 : x7_1 < (l0.length : Int) := of_decide_eq_true z3_
         obtain ⟨ad194, e194, hx194_0, hx194_1⟩ := at_T147 HR0.out x7_1 p194 q194
         cases e194
         replace hx194_0 := up_ HB hx194_0
         replace hx194_1 := up_ HB hx194_1
         replace p194 := eq_true p194
         replace q194 := eq_true q194
         go_wp2_with (first | ((with_reducible refine gate_dst (N := 4) rfl ?_); refine box_event ?hg (N := 4) ?hd (cs := #[.int .i64 0, .int .i64 0]) (t := 147) ?hr ?_; (case hd => rfl); (case hg => rfl); (case hr => exact z148_); intro gb195 hg w18 hbox hb; have n0_ := q_ (below_step z0_ hb); have n1_ := q_ (hbox); have n2_ := q_ ((z119_ : w.heap.size ≤ gb195)); have n3_ := q_ ((z119_ : w.heap.size ≤ gb195)); clear HB; have HB := n0_; have BK195 := n1_; have GW195 := n2_; have GE195 := n3_; clear n0_ n1_ n2_ n3_; clear hb hbox hg; obtain ⟨hcz19_0, hcz19_1, hfz19_0, hfz19_1⟩ := cs2_ BK195.out) | (go_at_call 136; (with_reducible refine (impl_isKey.calls ((rd_T147 l0 x7_1).f0) true _ A5.out).mono ?_); rintro e w' ⟨rfl, ⟨nd, rfl⟩⟩; (try first | exact ⟨rfl, _, World.drewN_drewN _ _ _⟩ | exact ⟨rfl, _, Eq.trans (World.drewN_drewN _ _ _) (congrArg (World.drewN _) (Nat.add_assoc _ _ _))⟩)) | (go_at_call 137; (with_reducible refine (impl_isNum.calls ((rd_T147 l0 x7_1).f1) true _ A7.out).mono ?_); rintro e w' ⟨rfl, ⟨nd, rfl⟩⟩; (try first | exact ⟨rfl, _, World.drewN_drewN _ _ _⟩ | exact ⟨rfl, _, Eq.trans (World.drewN_drewN _ _ _) (congrArg (World.drewN _) (Nat.add_assoc _ _ _))⟩)))
         repeat (go_quiet (first | ((with_reducible refine gate_dst (N := 4) rfl ?_); refine box_event ?hg (N := 4) ?hd (cs := #[.int .i64 0, .int .i64 0]) (t := 147) ?hr ?_; (case hd => rfl); (case hg => rfl); (case hr => exact z148_); intro gb195 hg w18 hbox hb; have n0_ := q_ (below_step z0_ hb); have n1_ := q_ (hbox); have n2_ := q_ ((z119_ : w.heap.size ≤ gb195)); have n3_ := q_ ((z119_ : w.heap.size ≤ gb195)); clear HB; have HB := n0_; have BK195 := n1_; have GW195 := n2_; have GE195 := n3_; clear n0_ n1_ n2_ n3_; clear hb hbox hg; obtain ⟨hcz19_0, hcz19_1, hfz19_0, hfz19_1⟩ := cs2_ BK195.out) | (go_at_call 136; (with_reducible refine (impl_isKey.calls ((rd_T147 l0 x7_1).f0) true _ A5.out).mono ?_); rintro e w' ⟨rfl, ⟨nd, rfl⟩⟩; (try first | exact ⟨rfl, _, World.drewN_drewN _ _ _⟩ | exact ⟨rfl, _, Eq.trans (World.drewN_drewN _ _ _) (congrArg (World.drewN _) (Nat.add_assoc _ _ _))⟩)) | (go_at_call 137; (with_reducible refine (impl_isNum.calls ((rd_T147 l0 x7_1).f1) true _ A7.out).mono ?_); rintro e w' ⟨rfl, ⟨nd, rfl⟩⟩; (try first | exact ⟨rfl, _, World.drewN_drewN _ _ _⟩ | exact ⟨rfl, _, Eq.trans (World.drewN_drewN _ _ _) (congrArg (World.drewN _) (Nat.add_assoc _ _ _))⟩))); try go_wp2_with (first | ((with_reducible refine gate_dst (N := 4) rfl ?_); refine box_event ?hg (N := 4) ?hd (cs := #[.int .i64 0, .int .i64 0]) (t := 147) ?hr ?_; (case hd => rfl); (case hg => rfl); (case hr => exact z148_); intro gb195 hg w18 hbox hb; have n0_ := q_ (below_step z0_ hb); have n1_ := q_ (hbox); have n2_ := q_ ((z119_ : w.heap.size ≤ gb195)); have n3_ := q_ ((z119_ : w.heap.size ≤ gb195)); clear HB; have HB := n0_; have BK195 := n1_; have GW195 := n2_; have GE195 := n3_; clear n0_ n1_ n2_ n3_; clear hb hbox hg; obtain ⟨hcz19_0, hcz19_1, hfz19_0, hfz19_1⟩ := cs2_ BK195.out) | (go_at_call 136; (with_reducible refine (impl_isKey.calls ((rd_T147 l0 x7_1).f0) true _ A5.out).mono ?_); rintro e w' ⟨rfl, ⟨nd, rfl⟩⟩; (try first | exact ⟨rfl, _, World.drewN_drewN _ _ _⟩ | exact ⟨rfl, _, Eq.trans (World.drewN_drewN _ _ _) (congrArg (World.drewN _) (Nat.add_assoc _ _ _))⟩)) | (go_at_call 137; (with_reducible refine (impl_isNum.calls ((rd_T147 l0 x7_1).f1) true _ A7.out).mono ?_); rintro e w' ⟨rfl, ⟨nd, rfl⟩⟩; (try first | exact ⟨rfl, _, World.drewN_drewN _ _ _⟩ | exact ⟨rfl, _, Eq.trans (World.drewN_drewN _ _ _) (congrArg (World.drewN _) (Nat.add_assoc _ _ _))⟩))))
         go_roundg k1
         case measure => have := HK1.out; omega
         case rel => exact ⟨(wrap64 (x7_1 + 1)), z7_, H', ⟨z74_⟩, ⟨z68_⟩⟩
       ·replace c8 := Bool.eq_false_iff.mpr c8
        subst c8
        have H1 : (some false) = some r := by rw [if_neg (show ¬ (false = true) by decide)] at H; exact H
        clear H
        have H := H1
        clear H1
        obtain rfl := Option.some.inj H
        have p194 : 0 ≤ (x7_1 : Int) := of_decide_eq_true z3_
        have q194 : x7_1 < (l0.length : Int) := of_decide_eq_true z3_
        obtain ⟨ad194, e194, hx194_0, hx194_1⟩ := at_T147 HR0.out x7_1 p194 q194
        cases e194
        replace hx194_0 := up_ HB hx194_0
        replace hx194_1 := up_ HB hx194_1
        replace p194 := eq_true p194
        replace q194 := eq_true q194
        go_wp2_with (first | ((with_reducible refine gate_dst (N := 4) rfl ?_); refine box_event ?hg (N := 4) ?hd (cs := #[.int .i64 0, .int .i64 0]) (t := 147) ?hr ?_; (case hd => rfl); (case hg => rfl); (case hr => exact z148_); intro gb195 hg w20 hbox hb; have n0_ := q_ (below_step z0_ hb); have n1_ := q_ (hbox); have n2_ := q_ ((z119_ : w.heap.size ≤ gb195)); have n3_ := q_ ((z119_ : w.heap.size ≤ gb195)); clear HB; have HB := n0_; have BK195 := n1_; have GW195 := n2_; have GE195 := n3_; clear n0_ n1_ n2_ n3_; clear hb hbox hg; obtain ⟨hcz21_0, hcz21_1, hfz21_0, hfz21_1⟩ := cs2_ BK195.out) | (go_at_call 136; (with_reducible refine (impl_isKey.calls ((rd_T147 l0 x7_1).f0) true _ A5.out).mono ?_); rintro e w' ⟨rfl, ⟨nd, rfl⟩⟩; (try first | exact ⟨rfl, _, World.drewN_drewN _ _ _⟩ | exact ⟨rfl, _, Eq.trans (World.drewN_drewN _ _ _) (congrArg (World.drewN _) (Nat.add_assoc _ _ _))⟩)) | (go_at_call 137; (with_reducible refine (impl_isNum.calls ((rd_T147 l0 x7_1).f1) false _ A7.out).mono ?_); rintro e w' ⟨rfl, ⟨nd, rfl⟩⟩; (try first | exact ⟨rfl, _, World.drewN_drewN _ _ _⟩ | exact ⟨rfl, _, Eq.trans (World.drewN_drewN _ _ _) (congrArg (World.drewN _) (Nat.add_assoc _ _ _))⟩)))
        repeat (go_quiet (first | ((with_reducible refine gate_dst (N := 4) rfl ?_); refine box_event ?hg (N := 4) ?hd (cs := #[.int .i64 0, .int .i64 0]) (t := 147) ?hr ?_; (case hd => rfl); (case hg => rfl); (case hr => exact z148_); intro gb195 hg w20 hbox hb; have n0_ := q_ (below_step z0_ hb); have n1_ := q_ (hbox); have n2_ := q_ ((z119_ : w.heap.size ≤ gb195)); have n3_ := q_ ((z119_ : w.heap.size ≤ gb195)); clear HB; have HB := n0_; have BK195 := n1_; have GW195 := n2_; have GE195 := n3_; clear n0_ n1_ n2_ n3_; clear hb hbox hg; obtain ⟨hcz21_0, hcz21_1, hfz21_0, hfz21_1⟩ := cs2_ BK195.out) | (go_at_call 136; (with_reducible refine (impl_isKey.calls ((rd_T147 l0 x7_1).f0) true _ A5.out).mono ?_); rintro e w' ⟨rfl, ⟨nd, rfl⟩⟩; (try first | exact ⟨rfl, _, World.drewN_drewN _ _ _⟩ | exact ⟨rfl, _, Eq.trans (World.drewN_drewN _ _ _) (congrArg (World.drewN _) (Nat.add_assoc _ _ _))⟩)) | (go_at_call 137; (with_reducible refine (impl_isNum.calls ((rd_T147 l0 x7_1).f1) false _ A7.out).mono ?_); rintro e w' ⟨rfl, ⟨nd, rfl⟩⟩; (try first | exact ⟨rfl, _, World.drewN_drewN _ _ _⟩ | exact ⟨rfl, _, Eq.trans (World.drewN_drewN _ _ _) (congrArg (World.drewN _) (Nat.add_assoc _ _ _))⟩))); try go_wp2_with (first | ((with_reducible refine gate_dst (N := 4) rfl ?_); refine box_event ?hg (N := 4) ?hd (cs := #[.int .i64 0, .int .i64 0]) (t := 147) ?hr ?_; (case hd => rfl); (case hg => rfl); (case hr => exact z148_); intro gb195 hg w20 hbox hb; have n0_ := q_ (below_step z0_ hb); have n1_ := q_ (hbox); have n2_ := q_ ((z119_ : w.heap.size ≤ gb195)); have n3_ := q_ ((z119_ : w.heap.size ≤ gb195)); clear HB; have HB := n0_; have BK195 := n1_; have GW195 := n2_; have GE195 := n3_; clear n0_ n1_ n2_ n3_; clear hb hbox hg; obtain ⟨hcz21_0, hcz21_1, hfz21_0, hfz21_1⟩ := cs2_ BK195.out) | (go_at_call 136; (with_reducible refine (impl_isKey.calls ((rd_T147 l0 x7_1).f0) true _ A5.out).mono ?_); rintro e w' ⟨rfl, ⟨nd, rfl⟩⟩; (try first | exact ⟨rfl, _, World.drewN_drewN _ _ _⟩ | exact ⟨rfl, _, Eq.trans (World.drewN_drewN _ _ _) (congrArg (World.drewN _) (Nat.add_assoc _ _ _))⟩)) | (go_at_call 137; (with_reducible refine (impl_isNum.calls ((rd_T147 l0 x7_1).f1) false _ A7.out).mono ?_); rintro e w' ⟨rfl, ⟨nd, rfl⟩⟩; (try first | exact ⟨rfl, _, World.drewN_drewN _ _ _⟩ | exact ⟨rfl, _, Eq.trans (World.drewN_drewN _ _ _) (congrArg (World.drewN _) (Nat.add_assoc _ _ _))⟩))))
        go_ret
        exact ⟨z5_, z68_⟩
      ·replace c6 := Bool.eq_false_iff.mpr c6
       subst c6
       have H1 : (some false) = some r := by rw [if_neg (show ¬ (false = true) by decide)] at H; exact H
       clear H
       have H := H1
       clear H1
       obtain rfl := Option.some.inj H
       have p194 : 0 ≤ (x7_1 : Int) := of_decide_eq_true z3_
       have q194 : x7_1 < (l0.length : Int) := of_decide_eq_true z3_
       obtain ⟨ad194, e194, hx194_0, hx194_1⟩ := at_T147 HR0.out x7_1 p194 q194
       cases e194
       replace hx194_0 := up_ HB hx194_0
       replace hx194_1 := up_ HB hx194_1
       replace p194 := eq_true p194
       replace q194 := eq_true q194
       go_wp2_with (first | ((with_reducible refine gate_dst (N := 4) rfl ?_); refine box_event ?hg (N := 4) ?hd (cs := #[.int .i64 0, .int .i64 0]) (t := 147) ?hr ?_; (case hd => rfl); (case hg => rfl); (case hr => exact z148_); intro gb195 hg w22 hbox hb; have n0_ := q_ (below_step z0_ hb); have n1_ := q_ (hbox); have n2_ := q_ ((z119_ : w.heap.size ≤ gb195)); have n3_ := q_ ((z119_ : w.heap.size ≤ gb195)); clear HB; have HB := n0_; have BK195 := n1_; have GW195 := n2_; have GE195 := n3_; clear n0_ n1_ n2_ n3_; clear hb hbox hg; obtain ⟨hcz23_0, hcz23_1, hfz23_0, hfz23_1⟩ := cs2_ BK195.out) | (go_at_call 136; (with_reducible refine (impl_isKey.calls ((rd_T147 l0 x7_1).f0) false _ A5.out).mono ?_); rintro e w' ⟨rfl, ⟨nd, rfl⟩⟩; (try first | exact ⟨rfl, _, World.drewN_drewN _ _ _⟩ | exact ⟨rfl, _, Eq.trans (World.drewN_drewN _ _ _) (congrArg (World.drewN _) (Nat.add_assoc _ _ _))⟩)))
       repeat (go_quiet (first | ((with_reducible refine gate_dst (N := 4) rfl ?_); refine box_event ?hg (N := 4) ?hd (cs := #[.int .i64 0, .int .i64 0]) (t := 147) ?hr ?_; (case hd => rfl); (case hg => rfl); (case hr => exact z148_); intro gb195 hg w22 hbox hb; have n0_ := q_ (below_step z0_ hb); have n1_ := q_ (hbox); have n2_ := q_ ((z119_ : w.heap.size ≤ gb195)); have n3_ := q_ ((z119_ : w.heap.size ≤ gb195)); clear HB; have HB := n0_; have BK195 := n1_; have GW195 := n2_; have GE195 := n3_; clear n0_ n1_ n2_ n3_; clear hb hbox hg; obtain ⟨hcz23_0, hcz23_1, hfz23_0, hfz23_1⟩ := cs2_ BK195.out) | (go_at_call 136; (with_reducible refine (impl_isKey.calls ((rd_T147 l0 x7_1).f0) false _ A5.out).mono ?_); rintro e w' ⟨rfl, ⟨nd, rfl⟩⟩; (try first | exact ⟨rfl, _, World.drewN_drewN _ _ _⟩ | exact ⟨rfl, _, Eq.trans (World.drewN_drewN _ _ _) (congrArg (World.drewN _) (Nat.add_assoc _ _ _))⟩))); try go_wp2_with (first | ((with_reducible refine gate_dst (N := 4) rfl ?_); refine box_event ?hg (N := 4) ?hd (cs := #[.int .i64 0, .int .i64 0]) (t := 147) ?hr ?_; (case hd => rfl); (case hg => rfl); (case hr => exact z148_); intro gb195 hg w22 hbox hb; have n0_ := q_ (below_step z0_ hb); have n1_ := q_ (hbox); have n2_ := q_ ((z119_ : w.heap.size ≤ gb195)); have n3_ := q_ ((z119_ : w.heap.size ≤ gb195)); clear HB; have HB := n0_; have BK195 := n1_; have GW195 := n2_; have GE195 := n3_; clear n0_ n1_ n2_ n3_; clear hb hbox hg; obtain ⟨hcz23_0, hcz23_1, hfz23_0, hfz23_1⟩ := cs2_ BK195.out) | (go_at_call 136; (with_reducible refine (impl_isKey.calls ((rd_T147 l0 x7_1).f0) false _ A5.out).mono ?_); rintro e w' ⟨rfl, ⟨nd, rfl⟩⟩; (try first | exact ⟨rfl, _, World.drewN_drewN _ _ _⟩ | exact ⟨rfl, _, Eq.trans (World.drewN_drewN _ _ _) (congrArg (World.drewN _) (Nat.add_assoc _ _ _))⟩))))
       go_ret
       exact ⟨z5_, z68_⟩
     ·rw [if_neg c4] at H
      exact absurd H (by simp)
    ·rw [if_neg c3] at H
     exact absurd H (by simp)
   ·rw [if_neg c2] at H
    have c2b0 : decide (x7_1 < (l0.length : Int)) = false := decide_eq_false c2
    clear c2
    obtain rfl := Option.some.inj H
    go_wp2
    repeat (go_quiet (fail); try go_wp2)
    go_ret
    exact ⟨z5_, z0_⟩

/-! ### slices_Clone_Pair: function 130 -/
def slices_Clone_Pair.f (l0 : List (S147)) : Option (List (S147)) := if l0.length < 8796093022208 then some l0 else none
set_option maxHeartbeats 8000000 in
set_option maxRecDepth 100000 in
theorem slices_Clone_Pair.calls (A0 : Option Addr) (c0 : Nat) (l0 : List (S147)) (r : List (S147)) (w : World) (hr0 : Kd.C k147 w A0 l0.length l0) (hc0 : l0.length ≤ c0) (h : slices_Clone_Pair.f l0 = some r) :
  Calls Try.prog 130 #[.slice A0 l0.length c0] w fun e w' => ∃ v0_ : Value, e = .returned (v0_) ∧ Kd.R k147 147 w' w.heap.size (fun _ => True) v0_ r ∧ Below w.heap.size w w' := by
 unfold slices_Clone_Pair.f at h
 by_cases hlim : l0.length < 8796093022208
 ·rw [if_pos hlim] at h
  obtain rfl := Option.some.inj h
  rcases A0 with _ | ad
  ·have h0 : l0 = [] := by
    rcases Nat.eq_zero_or_pos l0.length with h0 | h0
    ·exact List.eq_nil_of_length_eq_zero h0
    ·obtain ⟨ad, e, _⟩ := hr0.2.2 h0
     cases e
   subst h0
   have hn := fun W : World => Lib.run_eql_slice_nil (P := Try.prog) W 42 147 none 0 c0 0 0 Try.underlying42
   simp only [Option.isNone_none] at hn
   clear hr0 hc0 h hlim
   go_enter Try.func130, Try.ntmps130
   go_wp2
   go_ret
   exact ⟨_, rfl, Kd.R_nil _ _ _ _ _, Below.refl _ _⟩
  ·have hn := fun W : World => Lib.run_eql_slice_nil (P := Try.prog) W 42 147 (some ad) l0.length c0 0 0 Try.underlying42
   simp only [Option.isNone_some] at hn
   have HR0 := q_ hr0
   have HLM := q_ hlim
   have HB := q_ (Below.refl w.heap.size w)
   clear hr0 hc0 h hlim
   go_enter Try.func130, Try.ntmps130
   go_wp2_with (first | ((with_reducible refine gate_dst (N := 5) rfl ?_); refine Kd.R_lit k147 _ 147 ?hg (N := 5) ?hd (xs := ([] : List (S147))) (inner := []) (ok := fun _ => True) (okp := fun _ => True) ?hr ?hp (fun _ hk => hk) trivial (Below.refl _ _) (Nat.le_refl _) (by simp) ?_; (case hd => rfl); (case hg => rfl); (case hr => exact z148_); (case hp => exact (Reps.none _ _)); intro v1 w6 ho7 hb hg_ hnew_; clear hg_ hnew_; have n0_ := q_ (Kd.R_lower ho7 (below_size z0_)); have n2_ := q_ (below_step z0_ hb); clear HB; have HO1 := n0_; have HB := n2_; clear n0_ n2_; clear hb ho7) | ((with_reducible refine gate_builtin (b := .append) (xs := #[.tmp 5, .tmp 6]) rfl ?_); at_builtin; refine Kd.R_append_rows k147 (w0 := w) w.heap.size rfl (.tmp 5) (.tmp 6) 42 147 (.agg #[(.int .i64 0), (.int .i64 0)]) 16 rfl Try.underlying42 info147 rfl (by decide) (by omega) v1 [] l0 _ _ _ (fun _ => True) (fun _ => False) rfl rfl ?aO ?aR (fun _ _ h => h) (fun _ h => h.elim) ?aF ?aB ?aS ?aL ?_; (case aR => exact z153_); (case aB => exact z0_); (case aF => exact z177_); (case aO => exact z110_); (case aS => exact (below_size z0_)); (case aL => have := HLM.out; simp only [List.length_nil]; omega); intro v2 w7 ho hb hg hat; rw [List.nil_append] at ho; have HO2 := q_ ho; have n1_ := q_ hb; clear HB HO1; have HB := n1_; clear n1_; clear ho hb hg hat))
   go_ret
   exact ⟨_, rfl, z111_, z0_⟩
 ·rw [if_neg hlim] at h
  cases h

/-! ### impl_changed_f1: function 171 -/
def impl_changed_f1.f (a0_0 : Int) (a0_1 : Int) (a1 : Int) : Option (Int) := some (wrap64 (a0_0 - a1))
set_option maxHeartbeats 8000000 in
set_option maxRecDepth 100000 in
theorem impl_changed_f1.calls (a0_0 : Int) (a0_1 : Int) (a1 : Int) (r : Int) (w : World) (h : impl_changed_f1.f a0_0 a0_1 a1 = some r) :
  Calls Try.prog 171 #[.agg #[.int .i64 a0_0, .int .i64 a0_1], .int .i64 a1] w fun e w' => e = .returned (.int .i64 r) ∧ Below w.heap.size w w' := by
 have hu147 := Try.underlying147
 have HB := q_ (Below.refl w.heap.size w)
 have H : (some (wrap64 (a0_0 - a1))) = some r := h
 clear h
 obtain rfl := Option.some.inj H
 go_enter Try.func171, Try.ntmps171
 go_wp2_with (first | ((with_reducible refine gate_dst (N := 2) rfl ?_); refine box_event ?hg (N := 2) ?hd (cs := #[.int .i64 a0_0, .int .i64 a0_1]) (t := 147) ?hr ?_; (case hd => rfl); (case hg => rfl); (case hr => exact z148_); intro gb199 hg w3 hbox hb; have n0_ := q_ (below_step z0_ hb); have n1_ := q_ (hbox); have n2_ := q_ ((z119_ : w.heap.size ≤ gb199)); have n3_ := q_ ((z119_ : w.heap.size ≤ gb199)); clear HB; have HB := n0_; have BK199 := n1_; have GW199 := n2_; have GE199 := n3_; clear n0_ n1_ n2_ n3_; clear hb hbox hg; obtain ⟨hcz4_0, hcz4_1, hfz4_0, hfz4_1⟩ := cs2_ BK199.out))
 go_ret
 exact ⟨z5_, by repeat (first | (with_reducible first | exact HB.out | apply below_alloc | apply pw_below_drewN | apply below_drew1 | refine below_set ?_ GE199.out) | exact HB.out)⟩

/-! ### slices_BinarySearchFunc_Pair_171: function 170 -/
def slices_BinarySearchFunc_Pair_171.l0 : Nat → List (S147) → Int → Int → Int → Int → Option (Int × Bool)
 | 0, _, _, _, _, _ => none
 | k + 1, x0, x1, x8, x9, x10 => if x9 < x10 then (if 0 ≤ (wrap64 ((IntKind.u64.wrap (wrap64 (x9 + x10))) / 2)) then (if (wrap64 ((IntKind.u64.wrap (wrap64 (x9 + x10))) / 2)) < (x0.length : Int) then ((impl_changed_f1.f ((rd_T147 x0 (wrap64 ((IntKind.u64.wrap (wrap64 (x9 + x10))) / 2))).f0) ((rd_T147 x0 (wrap64 ((IntKind.u64.wrap (wrap64 (x9 + x10))) / 2))).f1) x1).bind fun t201 => (if t201 < 0 then (slices_BinarySearchFunc_Pair_171.l0 k x0 x1 x8 (wrap64 ((wrap64 ((IntKind.u64.wrap (wrap64 (x9 + x10))) / 2)) + 1)) x10) else (slices_BinarySearchFunc_Pair_171.l0 k x0 x1 x8 x9 (wrap64 ((IntKind.u64.wrap (wrap64 (x9 + x10))) / 2))))) else (none)) else (none)) else (if x9 < x8 then (if 0 ≤ x9 then (if x9 < (x0.length : Int) then ((impl_changed_f1.f ((rd_T147 x0 x9).f0) ((rd_T147 x0 x9).f1) x1).bind fun t203 => (some (x9, (t203 == 0)))) else (none)) else (none)) else (some (x9, false)))
def slices_BinarySearchFunc_Pair_171.f (k : Nat) (l0 : List (S147)) (a1 : Int)  : Option (Int × Bool) := slices_BinarySearchFunc_Pair_171.l0 k l0 a1 (l0.length : Int) 0 (l0.length : Int)
theorem slices_BinarySearchFunc_Pair_171.mono_l : ∀ k, (∀ y0 y1 y2 y3 y4, LeO (slices_BinarySearchFunc_Pair_171.l0 k y0 y1 y2 y3 y4) (slices_BinarySearchFunc_Pair_171.l0 (k + 1) y0 y1 y2 y3 y4))
 | 0 => fun _ _ _ _ _ r h => by simp [slices_BinarySearchFunc_Pair_171.l0] at h
 | k + 1 => by
  have ih0 := slices_BinarySearchFunc_Pair_171.mono_l k
  ·intro y0 y1 y2 y3 y4
   unfold slices_BinarySearchFunc_Pair_171.l0
   repeat' first
   | (with_reducible exact ih0 _ _ _ _ _)
   | (with_reducible exact LeO.refl _)
   | (with_reducible exact LeO.none _)
   | (with_reducible refine LeO.ite ?_ ?_)
   | (with_reducible refine LeO.bind ?_ (fun _ => ?_))
   | exact ih0 _ _ _ _ _
   | exact LeO.none _
   | refine LeO.ite ?_ ?_
   | refine LeO.bind ?_ (fun _ => ?_)
theorem slices_BinarySearchFunc_Pair_171.mono : ∀ a0 a1 k, LeO (slices_BinarySearchFunc_Pair_171.f k a0 a1) (slices_BinarySearchFunc_Pair_171.f (k + 1) a0 a1) := by
 intro a0 a1 k
 have ih0 := slices_BinarySearchFunc_Pair_171.mono_l k
 unfold slices_BinarySearchFunc_Pair_171.f
 repeat' first
   | (with_reducible exact ih0 _ _ _ _ _)
   | (with_reducible exact LeO.refl _)
   | (with_reducible exact LeO.none _)
   | (with_reducible refine LeO.ite ?_ ?_)
   | (with_reducible refine LeO.bind ?_ (fun _ => ?_))
   | exact ih0 _ _ _ _ _
   | exact LeO.none _
   | refine LeO.ite ?_ ?_
   | refine LeO.bind ?_ (fun _ => ?_)
set_option maxHeartbeats 8000000 in
set_option maxRecDepth 100000 in
theorem slices_BinarySearchFunc_Pair_171.calls (k : Nat) (A0 : Option Addr) (c0 : Nat) (l0 : List (S147)) (a1 : Int)  (r1 : Int) (r2 : Bool) (w : World) (hr0 : Kd.C k147 w A0 l0.length l0) (hc0 : l0.length ≤ c0) (h : slices_BinarySearchFunc_Pair_171.f k l0 a1 = some (r1, r2)) :
  Calls Try.prog 170 #[.slice A0 l0.length c0, .int .i64 a1, .func (.func 171) #[] #[]] w fun e w' => e = .returned (.tuple #[.int .i64 r1, .bool r2]) ∧ Below w.heap.size w w' := by
 have hu147 := Try.underlying147
 have HR0 := q_ hr0
 have HC0 := q_ hc0
 clear hr0 hc0
 have HB := q_ (Below.refl w.heap.size w)
 have H : (slices_BinarySearchFunc_Pair_171.l0 k l0 a1 (l0.length : Int) 0 (l0.length : Int)) = some (r1, r2) := h
 clear h
 have H' := q_ H
 clear H
 go_enter Try.func170, Try.ntmps170
 go_wp2
 go_loopg [9, 10] k (fun kq v9 v10 w' => ∃ (x9_1 : Int) (x10_1 : Int), v9 = .int .i64 x9_1 ∧ v10 = .int .i64 x10_1 ∧ Aside0 (slices_BinarySearchFunc_Pair_171.l0 kq l0 a1 (l0.length : Int) x9_1 x10_1 = some (r1, r2)) ∧ Aside0 (kq ≤ k) ∧ Aside0 (Below w.heap.size w w'))
 case atStart => exact ⟨(0), ((l0.length : Int)), z7_, z7_, H', ⟨Nat.le_refl _⟩, ⟨z0_⟩⟩
 case round =>
  clear H'
  try clear c1
  try clear p2
  obtain ⟨x9_1, x10_1, rfl, rfl, HA, HK1, HB⟩ := hrel
  cases gk with
  | zero => exact absurd HA.out (by simp [slices_BinarySearchFunc_Pair_171.l0])
  | succ k1 =>
   have H := HA.out
   clear HA
   simp only [slices_BinarySearchFunc_Pair_171.l0] at H
   by_cases c4 : x9_1 < x10_1
   ·rw [if_pos c4] at H
    have c4b0 : decide (x9_1 < x10_1) = true := decide_eq_true c4
    clear c4
    obtain ⟨ji5, hji5⟩ : ∃ j_ : Int, (wrap64 ((IntKind.u64.wrap (wrap64 (x9_1 + x10_1))) / 2)) = j_ := ⟨_, rfl⟩
    replace H : (if 0 ≤ (ji5) then (if (ji5) < (l0.length : Int) then ((impl_changed_f1.f ((rd_T147 l0 (ji5)).f0) ((rd_T147 l0 (ji5)).f1) a1).bind fun t201 => (if t201 < 0 then (slices_BinarySearchFunc_Pair_171.l0 k1 l0 a1 (l0.length : Int) (wrap64 ((ji5) + 1)) x10_1) else (slices_BinarySearchFunc_Pair_171.l0 k1 l0 a1 (l0.length : Int) x9_1 ji5))) else (none)) else (none)) = some (r1, r2) := by first | (rw [hji5] at H; exact H) | (simp only [hji5] at H ⊢; exact H)
    have hji5w : (IntKind.i64.wrap ((IntKind.u64.wrap (wrap64 (x9_1 + x10_1))) / 2)) = ji5 := (i64_w _).trans hji5
    by_cases c6 : 0 ≤ (ji5)
    ·rw [if_pos c6] at H
     have c6b0 : decide (0 ≤ (ji5)) = true := decide_eq_true c6
     clear c6
     by_cases c7 : (ji5) < (l0.length : Int)
     ·rw [if_pos c7] at H
      have c7b0 : decide ((ji5) < (l0.length : Int)) = true := decide_eq_true c7
      clear c7
      replace H := Option.bind_eq_some_iff.mp H
      obtain ⟨t201, A80, H⟩ := H
      replace H : (if t201 < 0 then (slices_BinarySearchFunc_Pair_171.l0 k1 l0 a1 (l0.length : Int) (wrap64 ((ji5) + 1)) x10_1) else (slices_BinarySearchFunc_Pair_171.l0 k1 l0 a1 (l0.length : Int) x9_1 ji5)) = some (r1, r2) := H
      have A8 := q_ A80
      clear A80
      by_cases c9 : t201 < 0
      ·rw [if_pos c9] at H
       have c9b0 : decide (t201 < 0) = true := decide_eq_true c9
       clear c9
       have H' := q_ H
       clear H
       have p200 : 0 ≤ ((ji5) : Int) := of_decide_eq_true z3_
       have q200 : (ji5) < (l0.length : Int) := of_decide_eq_true z3_
       obtain ⟨ad200, e200, hx200_0, hx200_1⟩ := at_T147 HR0.out (ji5) p200 q200
       cases e200
       replace hx200_0 := up_ HB hx200_0
       replace hx200_1 := up_ HB hx200_1
       replace p200 := eq_true p200
       replace q200 := eq_true q200
       go_wp2_with (first | (go_at_call 171; refine calls_of_args (args' := #[.agg #[.int .i64 ((rd_T147 l0 (ji5)).f0), .int .i64 ((rd_T147 l0 (ji5)).f1)], .int .i64 a1]) z100_ ?_; (with_reducible refine (impl_changed_f1.calls ((rd_T147 l0 (ji5)).f0) ((rd_T147 l0 (ji5)).f1) a1 t201 _ A8.out).mono ?_); rintro e w10 ⟨rfl, hb⟩; have n0_ := q_ (below_step z0_ hb); clear HB; have HB := n0_; clear n0_; (try clear hb); (try clear hb2); (try clear hk); (try clear hi)))
       go_roundg k1
       case measure => have := HK1.out; omega
       case rel => exact ⟨(wrap64 ((ji5) + 1)), (x10_1), z113_, z7_, H', ⟨z74_⟩, ⟨z0_⟩⟩
      ·rw [if_neg c9] at H
       have c9b0 : decide (t201 < 0) = false := decide_eq_false c9
       clear c9
       have H' := q_ H
       clear H
       have p200 : 0 ≤ ((ji5) : Int) := of_decide_eq_true z3_
       have q200 : (ji5) < (l0.length : Int) := of_decide_eq_true z3_
       obtain ⟨ad200, e200, hx200_0, hx200_1⟩ := at_T147 HR0.out (ji5) p200 q200
       cases e200
       replace hx200_0 := up_ HB hx200_0
       replace hx200_1 := up_ HB hx200_1
       replace p200 := eq_true p200
       replace q200 := eq_true q200
       go_wp2_with (first | (go_at_call 171; refine calls_of_args (args' := #[.agg #[.int .i64 ((rd_T147 l0 (ji5)).f0), .int .i64 ((rd_T147 l0 (ji5)).f1)], .int .i64 a1]) z100_ ?_; (with_reducible refine (impl_changed_f1.calls ((rd_T147 l0 (ji5)).f0) ((rd_T147 l0 (ji5)).f1) a1 t201 _ A8.out).mono ?_); rintro e w11 ⟨rfl, hb⟩; have n0_ := q_ (below_step z0_ hb); clear HB; have HB := n0_; clear n0_; (try clear hb); (try clear hb2); (try clear hk); (try clear hi)))
       go_roundg k1
       case measure => have := HK1.out; omega
       case rel => exact ⟨(x9_1), (ji5), z7_, z113_, H', ⟨z74_⟩, ⟨z0_⟩⟩
     ·rw [if_neg c7] at H
      exact absurd H (by simp)
    ·rw [if_neg c6] at H
     exact absurd H (by simp)
   ·rw [if_neg c4] at H
    have c4b0 : decide (x9_1 < x10_1) = false := decide_eq_false c4
    clear c4
    by_cases c12 : x9_1 < (l0.length : Int)
    ·rw [if_pos c12] at H
     have c12b0 : decide (x9_1 < (l0.length : Int)) = true := decide_eq_true c12
     clear c12
     by_cases c13 : 0 ≤ x9_1
     ·rw [if_pos c13] at H
      have c13b0 : decide (0 ≤ x9_1) = true := decide_eq_true c13
      clear c13
      by_cases c14 : x9_1 < (l0.length : Int)
      ·rw [if_pos c14] at H
       have c14b0 : decide (x9_1 < (l0.length : Int)) = true := decide_eq_true c14
       clear c14
       replace H := Option.bind_eq_some_iff.mp H
       obtain ⟨t203, A150, H⟩ := H
       replace H : (some (x9_1, (t203 == 0))) = some (r1, r2) := H
       have A15 := q_ A150
       clear A150
       simp only [Option.some.injEq, Prod.mk.injEq] at H
       obtain ⟨rfl, rfl⟩ := H
       have p202 : 0 ≤ (x9_1 : Int) := of_decide_eq_true z3_
       have q202 : x9_1 < (l0.length : Int) := of_decide_eq_true z3_
       obtain ⟨ad202, e202, hx202_0, hx202_1⟩ := at_T147 HR0.out x9_1 p202 q202
       cases e202
       replace hx202_0 := up_ HB hx202_0
       replace hx202_1 := up_ HB hx202_1
       replace p202 := eq_true p202
       replace q202 := eq_true q202
       go_wp2_with (first | (go_at_call 171; refine calls_of_args (args' := #[.agg #[.int .i64 ((rd_T147 l0 x9_1).f0), .int .i64 ((rd_T147 l0 x9_1).f1)], .int .i64 a1]) z100_ ?_; (with_reducible refine (impl_changed_f1.calls ((rd_T147 l0 x9_1).f0) ((rd_T147 l0 x9_1).f1) a1 t203 _ A15.out).mono ?_); rintro e w16 ⟨rfl, hb⟩; have n0_ := q_ (below_step z0_ hb); clear HB; have HB := n0_; clear n0_; (try clear hb); (try clear hb2); (try clear hk); (try clear hi)))
       go_ret2
       exact ⟨z5_, z0_⟩
      ·rw [if_neg c14] at H
       exact absurd H (by simp)
     ·rw [if_neg c13] at H
      exact absurd H (by simp)
    ·rw [if_neg c12] at H
     have c12b0 : decide (x9_1 < (l0.length : Int)) = false := decide_eq_false c12
     clear c12
     simp only [Option.some.injEq, Prod.mk.injEq] at H
     obtain ⟨rfl, rfl⟩ := H
     go_wp2
     go_ret2
     exact ⟨z5_, z0_⟩

/-! ### slices_Delete_Pair: function 172 -/
def slices_Delete_Pair.f (l0 : List (S147)) (x1 x2 : Int) : Option (List (S147)) := if 0 ≤ x1 then if x1 < l0.length then if x2 = x1 + 1 then some (l0.eraseIdx x1.toNat) else none else none else none
set_option maxHeartbeats 8000000 in
set_option maxRecDepth 100000 in
theorem slices_Delete_Pair.calls (P0_ : Nat → Prop) (u9000_ : Value) (l0 : List (S147)) (x1 x2 : Int) (r : List (S147)) (w0 w : World) (hB : Below w0.heap.size w0 w) (ho0 : Kd.R k147 147 w w0.heap.size P0_ u9000_ l0) (h : slices_Delete_Pair.f l0 x1 x2 = some r) :
  Calls Try.prog 172 #[u9000_, .int .i64 x1, .int .i64 x2] w fun e w' => ∃ v0_ : Value, e = .returned (v0_) ∧ Kd.R k147 147 w' w0.heap.size (fun k_ => (P0_ k_ ∨ w.heap.size ≤ k_)) v0_ r ∧ Below w0.heap.size w0 w' ∧ Kept w w' (fun k_ => P0_ k_) := by
 unfold slices_Delete_Pair.f at h
 by_cases h1 : 0 ≤ x1
 case neg => rw [if_neg h1] at h; cases h
 rw [if_pos h1] at h
 by_cases h2 : x1 < l0.length
 case neg => rw [if_neg h2] at h; cases h
 rw [if_pos h2] at h
 by_cases h3 : x2 = x1 + 1
 case neg => rw [if_neg h3] at h; cases h
 rw [if_pos h3] at h
 obtain rfl := Option.some.inj h
 subst h3
 obtain ⟨i, rfl⟩ := Int.eq_ofNat_of_zero_le h1
 have hi : i < l0.length := by omega
 obtain ⟨g, c, rfl, hg, hgs, -⟩ := Kd.R_form ho0 (by omega)
 obtain ⟨hn, hnc, -⟩ := Kd.R_reads' ho0
 have hcm : c ≤ 9223372036854775807 := by
  obtain ⟨_, _, _, _, hcm, _⟩ := Kd.R_lay ho0
  exact hcm
 obtain ⟨n, hln⟩ : ∃ n, n = l0.length := ⟨_, rfl⟩
 rw [← hln] at ho0 hn hnc hi ⊢
 have hs1 : ((i + 1 : Nat) : Int) = (i : Int) + 1 := by omega
 obtain ⟨i0, hi0, hz0, hsz0, hby0⟩ := info_parts info147
 obtain ⟨w1, hr1, hR1, hg1⟩ := Kd.R_delete_run (P := Try.prog) k147 (W := w.drew) w0.heap.size 42 42 147 i0 Try.underlying42 hi0 hsz0 (Kd.R_drew ho0) hi (A := if c = i + 1 then some ⟨g, 0, none⟩ else some ⟨g, (i + 1) * 2, none⟩) (by rw [Option.map_some, add_plain]; rfl) (c - (i + 1))
 have hcl : ∀ ty, (Builtin.clear_ #[42] ty #[.slice (some ⟨g, (n - 1) * 2, none⟩) (n - (n - 1)) (c - (n - 1))]).run Try.prog w1 = .ok (.tuple #[]) (w1.setCells g ((n - 1) * 2) (Builtin.zeroCells ((.agg #[(.int .i64 0), (.int .i64 0)]) : Value).cells (n - (n - 1))).toList) := by
  intro ty
  obtain ⟨cur, inner, hh, hcs, _⟩ := Kd.R_lay hR1
  refine clear_own_run Try.underlying42 Try.zeroValue147 hh ?_ (by omega) ?_
  ·exact zeroCells_one (by decide) (by decide)
  ·rw [hcs, Array.length_toList, size_zeroCells]
   show (n - 1) * 2 + (n - (n - 1)) * 2 ≤ c * 2
   omega
 have hR2 := Kd.R_spare hR1 (cs := (Builtin.zeroCells ((.agg #[(.int .i64 0), (.int .i64 0)]) : Value).cells (n - (n - 1))).toList) (o := (n - 1) * 2) (Nat.le_refl _) (by rw [Array.length_toList, size_zeroCells]; show (n - 1) * 2 + (n - (n - 1)) * 2 ≤ c * 2; omega)
 have hg2 := Kd.grown_setCells w1 g ((n - 1) * 2) (Builtin.zeroCells ((.agg #[(.int .i64 0), (.int .i64 0)]) : Value).cells (n - (n - 1))).toList
 obtain ⟨w2, hw2⟩ : ∃ w2, w2 = w1.setCells g ((n - 1) * 2) (Builtin.zeroCells ((.agg #[(.int .i64 0), (.int .i64 0)]) : Value).cells (n - (n - 1))).toList := ⟨_, rfl⟩
 rw [← hw2] at hcl hR2 hg2
 have hPg : P0_ g := ho0.1 g rfl
 have HF : Aside0 (Kd.R k147 147 w2 w0.heap.size (fun k_ => (P0_ k_ ∨ w.heap.size ≤ k_)) (.slice (some ⟨g, 0, none⟩) (n - 1) c) (l0.eraseIdx i) ∧ Below w0.heap.size w0 w2 ∧ Kept w w2 (fun k_ => P0_ k_)) :=
  ⟨Kd.R_mono hR2 (fun k_ hk => .inl hk), ((below_drew hB).grown hg1 hB.size (fun k_ e_ => by injection e_ with e_; omega)).grown hg2 (Nat.le_trans hB.size hg1.size) (fun k_ e_ => by injection e_ with e_; omega),
   Kept.of_grown hg2 (Kept.of_grown hg1 (Kept.drew (Kept.refl w _)) (fun k_ e_ => .inl z117_)) (fun k_ e_ => .inl z117_)⟩
 have HA := q_ hr1
 have HC := q_ hcl
 have f1 : (i : Int) ≤ (i : Int) + 1 := by omega
 have f2 : (i : Int) + 1 ≤ (n : Int) := by omega
 have f3 : (n : Int) ≤ (c : Int) := by omega
 have f4 : ¬ ((i : Int) = (i : Int) + 1) := by omega
 have f5 : (0 : Int) ≤ (i : Int) + 1 := by omega
 have f6 : (i : Int) ≤ (c : Int) := by omega
 have f7 : ((i : Int) + 1).toNat = i + 1 := by omega
 have f8 : i ≤ c := by omega
 have f9 : i + 1 ≤ n := by omega
 have f10 : n ≤ c := by omega
 clear hB hln hw2 hcl hR2 hg2 hr1 hR1 hg1 ho0 hi hnc hn h1 h2 hcm
 go_enter Try.func172, Try.ntmps172
 go_wp2_with fail
 go_region_law (refine step_append rfl _ _ 42 42 rfl z115_ z115_ HA.out ?_)
 go_wp2_with ((with_reducible refine gate_builtin (b := .clear) (xs := #[.tmp 31]) rfl ?_); refine gone_clear rfl _ 42 rfl rfl (HC.out _) ?_)
 all_goals go_ret
 all_goals first | exact ⟨_, rfl, HF.out⟩ | (have hc_ : c = i + 1 := (by assumption); subst hc_; exact ⟨_, rfl, HF.out⟩)

/-! ### slices_Insert_Pair: function 173 -/
def slices_Insert_Pair.f (l0 : List (S147)) (x1 : Int) (l2 : List (S147)) : Option (List (S147)) := if 0 ≤ x1 then if x1 ≤ l0.length then if l2.length = 1 then if l0.length < 8796093022208 then some (l0.take x1.toNat ++ l2 ++ l0.drop x1.toNat) else none else none else none else none
set_option maxHeartbeats 8000000 in
set_option maxRecDepth 100000 in
theorem slices_Insert_Pair.calls (P0_ : Nat → Prop) (u9000_ : Value) (l0 : List (S147)) (x1 : Int) (A2 : Option Addr) (c2 : Nat) (l2 : List (S147)) (r : List (S147)) (w0 w : World) (hB : Below w0.heap.size w0 w) (ho0 : Kd.R k147 147 w w0.heap.size P0_ u9000_ l0) (hr2 : ∀ W_, Kept w W_ (fun k_ => P0_ k_) → Kd.C k147 W_ A2 l2.length l2) (hc2 : l2.length ≤ c2) (h : slices_Insert_Pair.f l0 x1 l2 = some r) :
  Calls Try.prog 173 #[u9000_, .int .i64 x1, .slice A2 l2.length c2] w fun e w' => ∃ v0_ : Value, e = .returned (v0_) ∧ Kd.R k147 147 w' w0.heap.size (fun k_ => (P0_ k_ ∨ w.heap.size ≤ k_)) v0_ r ∧ Below w0.heap.size w0 w' ∧ Kept w w' (fun k_ => P0_ k_) := by
 unfold slices_Insert_Pair.f at h
 by_cases h1 : 0 ≤ x1
 case neg => rw [if_neg h1] at h; cases h
 rw [if_pos h1] at h
 by_cases h2 : x1 ≤ l0.length
 case neg => rw [if_neg h2] at h; cases h
 rw [if_pos h2] at h
 by_cases h3 : l2.length = 1
 case neg => rw [if_neg h3] at h; cases h
 rw [if_pos h3] at h
 by_cases h4 : l0.length < 8796093022208
 case neg => rw [if_neg h4] at h; cases h
 rw [if_pos h4] at h
 obtain rfl := Option.some.inj h
 clear h
 obtain ⟨i, rfl⟩ := Int.eq_ofNat_of_zero_le h1
 have hi : i ≤ l0.length := by omega
 clear h1 h2
 have hr := hr2 w (Kept.refl w _)
 have HB := q_ hB
 have HS := q_ hB.size
 rcases Nat.lt_or_ge i l0.length with hlt | hge
 ·obtain ⟨g, c, rfl, hg, hgs, -⟩ := Kd.R_form ho0 (by omega)
  obtain ⟨hn, hnc, -⟩ := Kd.R_reads' ho0
  have hPg : P0_ g := ho0.1 g rfl
  have hcm : c ≤ 9223372036854775807 := by
   obtain ⟨_, _, _, _, hcm, _⟩ := Kd.R_lay ho0
   exact hcm
  obtain ⟨ad, rfl, -⟩ := hr.2.2 (by omega)
  obtain ⟨news, hnr, hnews⟩ := ReadsRow.inner_ hr
  have hnr' : Reps (k147.M w w0.heap.size (fun _ => False)) 2 l2 news := hnr
  have hnl : news.length = 2 := by rw [hnr.1, h3]; rfl
  have hadg : ad.block ≠ g := fun e_ => Kd.foot_neS hr2 (by omega) (by decide) (by rw [e_]; exact hPg)
  have hadl : ad.block < w.heap.size := Kd.C_lt hr (by omega) (by decide)
  have hone : ∀ u ∈ news, u.oneCell' = true := Kd.one_cell_of_reps (d := k147) hnr' (by decide)
  obtain ⟨n, hln⟩ : ∃ n, n = l0.length := ⟨_, rfl⟩
  rw [← hln] at ho0 hn hnc hlt h4 hi ⊢
  rw [h3] at hc2 ⊢
  obtain ⟨i0, hi0, hz0, hsz0, hby0⟩ := info_parts info147
  have f1 : (i : Int) ≤ (n : Int) := by omega
  have f2 : ¬ ((i : Int) = (n : Int)) := by omega
  have f3 : i ≤ c := by omega
  have f4 : ¬ (c = i) := by omega
  have f5 : i ≤ n := by omega
  have f6 : IntKind.i64.wrap ((n : Int) + 1) = (n : Int) + 1 := by rw [IntKind.wrap_i64]; omega
  have f7 : IntKind.i64.wrap ((i : Int) + 1) = (i : Int) + 1 := by rw [IntKind.wrap_i64]; omega
  have f8 : ((i : Int) + 1).toNat = i + 1 := by omega
  have f9 : ((n : Int) + 1).toNat = n + 1 := by omega
  have f10 : (0 : Int) ≤ (i : Int) + 1 := by omega
  have f11 : (0 : Int) ≤ (n : Int) + 1 := by omega
  clear hln
  have HO1 : Kd.R k147 147 w w0.heap.size (fun k_ => (P0_ k_ ∨ w.heap.size ≤ k_)) (.slice (some ⟨g, 0, none⟩) n c) l0 := Kd.R_mono ho0 (fun k_ hk => (.inl hk))
  rcases Nat.lt_or_ge c (n + 1) with hfull | hroom
  ·have g1 : (c : Int) < (n : Int) + 1 := by omega
   have g2 : wrap64 ((n : Int) + 1 - (i : Int)) = ((n + 1 - i : Nat) : Int) := by unfold wrap64; omega
   obtain ⟨c1, hc1⟩ : ∃ c1, c1 = grownCap w (n + 1) c 147 := ⟨_, rfl⟩
   have hge : n + 1 ≤ c1 := by rw [hc1]; exact grownCap_ge w (n + 1) c 147
   have hcm1 : c1 ≤ maxLen := by rw [hc1]; exact grownCap_le_maxLen w (n + 1) c 147 (by simp only [maxLen]; omega)
   obtain ⟨z, hz⟩ : ∃ z, z = (Builtin.zeroCells ((.agg #[(.int .i64 0), (.int .i64 0)]) : Value).cells (n + 1 - i)).toList ++ (Builtin.zeroCells ((.agg #[(.int .i64 0), (.int .i64 0)]) : Value).cells (c1 - (n + 1))).toList := ⟨_, rfl⟩
   have hzl : i * 2 + z.length = c1 * 2 := by
    rw [hz, List.length_append, Array.length_toList, Array.length_toList, size_zeroCells, size_zeroCells]
    show i * 2 + ((n + 1 - i) * 2 + (c1 - (n + 1)) * 2) = c1 * 2
    omega
   obtain ⟨olds, tail, q1, q2, q3, q4, q5, q6, ⟨cur1, q7, q8⟩, ⟨cur2, q9, q10⟩, hR, hG⟩ := Kd.R_put_anew (d := k147) (c1 := c1) (z := z) HO1 hi h3 (by decide) hnr' (fun _ h => h.elim) (.inr (Nat.le_refl _)) hB.size hzl hge hcm1
   obtain ⟨W1, hW1⟩ : ∃ W1, W1 = w.drew.alloc (.cells (olds ++ z).toArray 147) := ⟨_, rfl⟩
   obtain ⟨W2, hW2⟩ : ∃ W2, W2 = W1.setCells w.heap.size (i * 2) news := ⟨_, rfl⟩
   obtain ⟨W3, hW3⟩ : ∃ W3, W3 = W2.drew.setCells w.heap.size ((i + 1) * 2) tail := ⟨_, rfl⟩
   rw [← hW1] at q7 q9
   replace q9 : W2.heap[w.heap.size]? = some (.cells cur2 147 (0, 0)) := by rw [hW2]; exact q9
   replace hR : Kd.R k147 147 W3 w0.heap.size (fun k_ => (P0_ k_ ∨ w.heap.size ≤ k_)) (.slice (some ⟨w.heap.size, 0, none⟩) (n + 1) c1) (l0.take i ++ l2 ++ l0.drop i) := by rw [hW3, hW2, hW1]; exact hR
   replace hG : w.grownBy W3 none := by rw [hW3, hW2, hW1]; exact hG
   have hb1 : Below w.heap.size w W1 := by rw [hW1]; exact below_alloc (below_drew (Below.refl _ _)) _
   have hb2 : Below w.heap.size w W2 := by rw [hW2]; exact hb1.grown (Kd.grown_setCells W1 w.heap.size (i * 2) news) hb1.size (fun k_ e_ => by injection e_ with e_; omega)
   have HA : Aside0 ((Builtin.append_ #[42, 3] 42 #[.slice (some ⟨g, 0, none⟩) i c, .int .i64 (wrap64 ((n : Int) + 1 - (i : Int)))]).run Try.prog w = .ok (.slice (some ⟨w.heap.size, 0, none⟩) (n + 1) c1) W1) := by
    have e_ : i + (n + 1 - i) = n + 1 := by omega
    have h_ := run_append_zeros_anew (P := Try.prog) w (ty := 42) Try.underlying42 Try.underlying3 hi0 hz0 (by rw [hsz0]; decide) (by rw [hby0]; decide) (A := some ⟨g, 0, none⟩) (n := i) (m := n + 1 - i) (c := c) (by omega) (by omega) (olds := olds) (run_firstCells_some w.drew _ i _ i c olds (by rw [hsz0]; exact q1) (fun j u hu => by rw [add_plain]; simpa using q2 j u hu)) .i64 (by rw [hby0, e_]; omega)
    rw [e_, ← hc1, ← hz, ← hW1] at h_
    rw [g2]
    exact ⟨h_⟩
   have HC1 : Aside0 (∀ ty, (Builtin.copy_ #[42, 42] ty #[.slice (some ⟨w.heap.size, i * 2, none⟩) (n + 1 - i) (c1 - i), .slice (some ad) 1 c2]).run Try.prog W1 = .ok (goInt (Nat.min 1 (n + 1 - i))) W2) := by
    refine ⟨fun ty => ?_⟩
    rw [hW2]
    refine copy_own_run Try.underlying42 hi0 q7 ?_ (fun j u hu => pw_cell_below hb1 (hnews j u hu)) ?_ hone
    ·rw [hsz0, hnl, show Nat.min 1 (n + 1 - i) = 1 from Nat.min_eq_left (by omega)]
    ·rw [hnl, q8]
     show i * 2 + 2 ≤ c1 * 2
     omega
   have HC2 : Aside0 (∀ ty, (Builtin.copy_ #[42, 42] ty #[.slice (some ⟨w.heap.size, (i + 1) * 2, none⟩) (n - i) (c1 - (i + 1)), .slice (some ⟨g, i * 2, none⟩) (n - i) (c - i)]).run Try.prog W2.drew = .ok (goInt (Nat.min (n - i) (n - i))) W3) := by
    refine ⟨fun ty => ?_⟩
    rw [hW3]
    refine copy_own_run (w := W2.drew) Try.underlying42 hi0 (cur := cur2) q9 ?_ (fun j u hu => ?_) ?_ q5
    ·rw [hsz0, q3, show Nat.min (n - i) (n - i) = n - i from Nat.min_self _]
     rfl
    ·rw [add_at]
     exact pw_cell_below (below_drew hb2) (q4 j u hu)
    ·rw [q3, q10]
     show (i + 1) * 2 + (n - i) * 2 ≤ c1 * 2
     omega
   have HF : Aside0 (Kd.R k147 147 W3 w0.heap.size (fun k_ => (P0_ k_ ∨ w.heap.size ≤ k_)) (.slice (some ⟨w.heap.size, 0, none⟩) (n + 1) c1) (l0.take i ++ l2 ++ l0.drop i) ∧ Below w0.heap.size w0 W3 ∧ Kept w W3 (fun k_ => P0_ k_)) :=
    ⟨hR, hB.grown hG hB.size (fun k_ e_ => by cases e_), Kept.of_grown hG (Kept.refl w _) (fun k_ e_ => by cases e_)⟩
   have g3 : i ≤ c1 := by omega
   have g4 : ¬ (c1 = i) := by omega
   have g5 : ¬ (c1 = i + 1) := by omega
   have g6 : (i : Int) + 1 ≤ (n : Int) + 1 := by omega
   have g7 : (n : Int) + 1 ≤ (c1 : Int) := by omega
   have g8 : i ≤ n + 1 := by omega
   have g9 : (i : Int) ≤ (n : Int) + 1 := by omega
   simp only [Int.toNat_natCast]
   clear g2 hR hG hb1 hb2 q1 q2 q3 q4 q5 q6 q7 q8 q9 q10 hW1 hW2 hW3 hz hzl hc1 hge hcm1 hr hr2 hnr hnr' hnews hnl hone hB ho0 HO1 hn hnc h4 hi0 hz0 hsz0 hby0 hfull hc2 hlt h3 hi hadl hadg hcm hPg
   go_enter Try.func173, Try.ntmps173
   go_wp2_with (first | ((with_reducible refine gate_builtin (b := .append) (xs := #[.tmp 34, .tmp 39]) rfl ?_); refine gone_append rfl (.tmp 34) (.tmp 39) 42 3 rfl rfl rfl HA.out ?_) | ((with_reducible refine gate_builtin (b := .copy) (xs := #[.tmp 43, .tmp 44]) rfl ?_); refine gone_copy rfl (.tmp 43) (.tmp 44) 42 42 rfl rfl rfl (HC1.out _) ?_))
   go_region_law (refine step_copy rfl _ _ 42 42 rfl z115_ z115_ (HC2.out _) ?_)
   go_wp2
   go_ret
   exact ⟨_, rfl, HF.out⟩
  ·have g1 : ¬ ((c : Int) < (n : Int) + 1) := by omega
   obtain ⟨tail, q3, q4, q5, ⟨cur0, q6, q7⟩, ⟨cur1, q8, q9⟩, hR, hG⟩ := Kd.R_put_in (d := k147) (W := w.drew) (Kd.R_drew HO1) hi h3 hroom (by decide) (okp := fun _ => False) (news := news) (hnr'.imp_ (fun _ _ h => h)) (fun _ h => h.elim)
   obtain ⟨W1, hW1⟩ : ∃ W1, W1 = w.drew.setCells g ((i + 1) * 2) tail := ⟨_, rfl⟩
   obtain ⟨W2, hW2⟩ : ∃ W2, W2 = W1.setCells g (i * 2) news := ⟨_, rfl⟩
   replace q8 : W1.heap[g]? = some (.cells cur1 147 (0, 0)) := by rw [hW1]; exact q8
   replace hR : Kd.R k147 147 W2 w0.heap.size (fun k_ => (P0_ k_ ∨ w.heap.size ≤ k_)) (.slice (some ⟨g, 0, none⟩) (n + 1) c) (l0.take i ++ l2 ++ l0.drop i) := by rw [hW2, hW1]; exact hR
   replace hG : w.grownBy W2 (some g) := by rw [hW2, hW1]; exact ⟨hG.os, hG.tape, hG.output, hG.size, hG.block⟩
   have hu : ∃ u, w.cell? ad = some u := ⟨news[0], by have := hnews 0 news[0] (List.getElem?_eq_getElem (by omega)); rwa [Addr.add_zero'] at this⟩
   obtain ⟨u, hu⟩ := hu
   have hov : ∀ lb cb, (callFunc 186 #[.slice (some ad) 1 c2, .slice (some ⟨g, (i + 1) * 2, none⟩) lb cb]).run Try.prog w = .ok (.value (.bool false)) w := fun lb cb => by
    rw [run_callFunc_extern Try.func186 (by kernel_rfl) (by kernel_rfl) (by kernel_rfl) (e := Extern.SlicesOverlaps.overlaps #[42, 42] #[4]) (by kernel_rfl),
     overlaps_own_run (P := Try.prog) (w := w) (tS := 42) (tR := 4) Try.underlying42 (size := 2) (by intro w; simp [sizeOf, typeInfo, hi0, hsz0]) (a := ad) (b := ⟨g, (i + 1) * 2, none⟩) hadg q6 (by rw [q7]; show 0 < c * 2; omega) hu]
    rfl
   have HC1 : Aside0 (∀ ty, (Builtin.copy_ #[42, 42] ty #[.slice (some ⟨g, (i + 1) * 2, none⟩) (n - i) (c - (i + 1)), .slice (some ⟨g, i * 2, none⟩) (n + 1 - i) (c - i)]).run Try.prog w.drew = .ok (goInt (Nat.min (n + 1 - i) (n - i))) W1) := by
    refine ⟨fun ty => ?_⟩
    rw [hW1]
    refine copy_own_run (w := w.drew) Try.underlying42 hi0 (cur := cur0) q6 ?_ (fun j u hu => ?_) ?_ q5
    ·rw [hsz0, q3, show Nat.min (n + 1 - i) (n - i) = n - i from Nat.min_eq_right (by omega)]
     rfl
    ·rw [add_at]
     exact q4 j u hu
    ·rw [q3, q7]
     show (i + 1) * 2 + (n - i) * 2 ≤ c * 2
     omega
   have HC2 : Aside0 (∀ ty, (Builtin.copy_ #[42, 42] ty #[.slice (some ⟨g, i * 2, none⟩) (n + 1 - i) (c - i), .slice (some ad) 1 c2]).run Try.prog W1 = .ok (goInt (Nat.min 1 (n + 1 - i))) W2) := by
    refine ⟨fun ty => ?_⟩
    rw [hW2]
    refine copy_own_run Try.underlying42 hi0 q8 ?_ (fun j u hu => ?_) ?_ hone
    ·rw [hsz0, hnl, show Nat.min 1 (n + 1 - i) = 1 from Nat.min_eq_left (by omega)]
    ·have h_ := hnews j u hu
     rw [hW1]
     rw [← h_]
     exact World.cell?_of_block (w := w) (by rw [add_block]; exact setCells_far tail ((i + 1) * 2) (w := w.drew) ad.block hadg)
    ·rw [hnl, q9]
     show i * 2 + 2 ≤ c * 2
     omega
   have HF : Aside0 (Kd.R k147 147 W2 w0.heap.size (fun k_ => (P0_ k_ ∨ w.heap.size ≤ k_)) (.slice (some ⟨g, 0, none⟩) (n + 1) c) (l0.take i ++ l2 ++ l0.drop i) ∧ Below w0.heap.size w0 W2 ∧ Kept w W2 (fun k_ => P0_ k_)) :=
    ⟨hR, hB.grown hG hB.size (fun k_ e_ => by injection e_ with e_; omega), Kept.of_grown hG (Kept.refl w _) (fun k_ e_ => .inl z117_)⟩
   have g4 : ¬ (c = i + 1) := by omega
   have g6 : (i : Int) + 1 ≤ (n : Int) + 1 := by omega
   have g7 : (n : Int) + 1 ≤ (c : Int) := by omega
   have g8 : i ≤ n + 1 := by omega
   have g9 : (i : Int) ≤ (n : Int) + 1 := by omega
   simp only [Int.toNat_natCast]
   clear hR hG q3 q4 q5 q6 q7 q8 q9 hW1 hW2 hr hr2 hnr hnr' hnews hnl hone hB ho0 HO1 hn hnc h4 hi0 hz0 hsz0 hby0 hroom hc2 hlt h3 hi hadl hadg hcm hPg hu
   go_enter Try.func173, Try.ntmps173
   go_wp2_with (first | (simp only [hov]) | ((with_reducible refine gate_builtin (b := .copy) (xs := #[.tmp 80, .tmp 81]) rfl ?_); refine gone_copy rfl (.tmp 80) (.tmp 81) 42 42 rfl rfl rfl (HC2.out _) ?_))
   go_region_law (refine step_copy rfl _ _ 42 42 rfl z115_ z115_ (HC1.out _) ?_)
   go_wp2_with ((with_reducible refine gate_builtin (b := .copy) (xs := #[.tmp 80, .tmp 81]) rfl ?_); refine gone_copy rfl (.tmp 80) (.tmp 81) 42 42 rfl rfl rfl (HC2.out _) ?_)
   go_ret
   exact ⟨_, rfl, HF.out⟩
 ·have hin : i = l0.length := by omega
  have HO := q_ (show Kd.R k147 147 w w0.heap.size (fun k_ => (P0_ k_ ∨ w.heap.size ≤ k_)) u9000_ l0 from Kd.R_mono ho0 (fun k_ hk => (.inl hk)))
  have HP := q_ ho0.1
  have HC := q_ hr
  have HL := q_ (And.intro h4 h3)
  have HX : l0.take i ++ l2 ++ l0.drop i = l0 ++ l2 := by rw [hin, List.take_length, List.drop_length, List.append_nil]
  have HE := q_ HX
  obtain ⟨A, c, rfl⟩ := Kd.R_slice ho0
  subst hin
  simp only [Int.toNat_natCast]
  rw [HE.out]
  have e1 : ((l2.length : Int) == 0) = false := by rw [h3]; rfl
  clear hr hr2 hB ho0 hi hge h4 h3 HX
  go_enter Try.func173, Try.ntmps173
  rcases A with _ | a
  all_goals go_wp2_with ((with_reducible refine gate_builtin (b := .append) (xs := #[.tmp 23, .tmp 24]) rfl ?_); at_builtin; refine Kd.R_append_rows k147 (w0 := w0) w0.heap.size rfl (.tmp 23) (.tmp 24) 42 147 ((.agg #[(.int .i64 0), (.int .i64 0)])) 16 rfl Try.underlying42 info147 rfl (by decide) (by omega) _ l0 l2 A2 l2.length c2 (fun k_ => P0_ k_ ∨ w.heap.size ≤ k_) (fun _ => False) rfl rfl HO.out HC.out (fun _ _ h => h) (fun _ h => h.elim) (fun _ h => .inr h) HB.out HS.out (by have := HL.out.1; have := HL.out.2; omega) ?_; intro v1 w6 ho hb hg hat; have HF := q_ (And.intro ho (And.intro hb hg)); clear ho hb hg hat)
  all_goals go_ret
  all_goals exact ⟨_, rfl, HF.out.1, HF.out.2.1, Kept.of_grown HF.out.2.2 (Kept.refl w _) (fun k_ e_ => .inl (HP.out k_ e_))⟩

end Go.Proofs.Ytphlmbhjeoljoaa.PFnShrunk
