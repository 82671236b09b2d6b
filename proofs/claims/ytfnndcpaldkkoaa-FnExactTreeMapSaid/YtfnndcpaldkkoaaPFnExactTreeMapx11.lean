-- Written by a program of this session, which goes by the kit's print. Not trusted: Lean checks it.
import Derived.Test.YtfnndcpaldkkoaaPFnExactTreeMapx0
import Derived.Test.YtfnndcpaldkkoaaPFnExactTreeMapx10
namespace Go.Proofs.Ytfnndcpaldkkoaa.PFnExactTreeMap
open Go.RowKit Go.Proofs.YtfnndcpaldkkoaaW.PrintWords Go.Proofs.YtfnndcpaldkkoaaW.PrintLast Go.Proofs.YtfnndcpaldkkoaaW.PrintMore
attribute [local go_sem] Instr.field asAgg max2_int min2_int max_two min_two max_three min_three max_four min_four   -- for this text's walks alone
set_option linter.unusedVariables false
set_option linter.unusedSimpArgs false

/-! ### impl_MapOk: function 51 -/
def impl_MapOk.l0 : Nat → List (S92) → List (S92) → Int → Int → Option (Bool)
 | 0, _, _, _, _ => none
 | k + 1, x0, x5, x6, x7 => if x7 < x6 then (if 0 ≤ x7 then (if x7 < (x5.length : Int) then ((impl_isKey.f ((rd_T92 x5 x7).f0)).bind fun t325 => (if t325 = true then ((impl_isNum.f ((rd_T92 x5 x7).f1)).bind fun t326 => (if t326 = true then (if x7 > 0 then (if 0 ≤ (wrap64 (x7 - 1)) then (if (wrap64 (x7 - 1)) < (x0.length : Int) then (if ((rd_T92 x0 (wrap64 (x7 - 1))).f0) ≥ ((rd_T92 x5 x7).f0) then (some false) else (impl_MapOk.l0 k x0 x5 x6 (wrap64 (x7 + 1)))) else (none)) else (none)) else (impl_MapOk.l0 k x0 x5 x6 (wrap64 (x7 + 1)))) else (some false))) else (some false))) else (none)) else (none)) else (some true)
def impl_MapOk.f (k : Nat) (l0 : List (S92)) : Option (Bool) := impl_MapOk.l0 k l0 l0 (l0.length : Int) 0
theorem impl_MapOk.mono_l : ∀ k, (∀ y0 y1 y2 y3, LeO (impl_MapOk.l0 k y0 y1 y2 y3) (impl_MapOk.l0 (k + 1) y0 y1 y2 y3))
 | 0 => fun _ _ _ _ r h => by simp [impl_MapOk.l0] at h
 | k + 1 => by
  have ih0 := impl_MapOk.mono_l k
  ·intro y0 y1 y2 y3
   unfold impl_MapOk.l0
   exact zm_
theorem impl_MapOk.mono : ∀ a0 k, LeO (impl_MapOk.f k a0) (impl_MapOk.f (k + 1) a0) := by
 intro a0 k
 have ih0 := impl_MapOk.mono_l k
 unfold impl_MapOk.f
 exact zm_
set_option maxHeartbeats 8000000 in
set_option maxRecDepth 100000 in
theorem impl_MapOk.calls (k : Nat) (A0 : Option Addr) (c0 : Nat) (l0 : List (S92)) (r : Bool) (w : World) (hr0 : Kd.C k92 w A0 l0.length l0) (hc0 : l0.length ≤ c0) (h : impl_MapOk.f k l0 = some r) :
  Calls Try.prog 51 #[.slice A0 l0.length c0] w fun e w' => e = .returned (.bool r) ∧ Below w.heap.size w w' := by
 have hu92 := Try.underlying92
 have HR0 := q_ hr0
 have HC0 := q_ hc0
 clear hr0 hc0
 have HB := q_ (Below.refl w.heap.size w)
 have H := h; clear h
 unfold impl_MapOk.f at H
 have H' := q_ H
 clear H
 go_enter Try.func51, Try.ntmps51
 go_wp2
 repeat (go_quiet (fail); try go_wp2)
 go_loopg [7] k (fun kq v7 w' => ∃ (x7_1 : Int), v7 = .int .i64 x7_1 ∧ Aside0 (impl_MapOk.l0 kq l0 l0 (l0.length : Int) x7_1 = some r) ∧ Aside0 (kq ≤ k) ∧ Aside0 (Below w.heap.size w w'))
 case atStart => exact ⟨(0), z4_, H', ⟨Nat.le_refl _⟩, ⟨cb_⟩⟩
 case round =>
  clear H'
  obtain ⟨x7_1, rfl, HA, HK1, HB⟩ := hrel
  obtain ⟨k1, rfl, H⟩ := rn_ (k := gk) HA (by rintro rfl; simp only [impl_MapOk.l0])
  clear HA
  simp only [impl_MapOk.l0] at H
  replace H := kd_ H; rcases H with ⟨c2b0, H⟩ | ⟨c2b0, H⟩
  ·replace H := kdn_ H; obtain ⟨c3b0, H⟩ := H
   replace H := kdn_ H; obtain ⟨c4b0, H⟩ := H
   replace H := bi_ H; obtain ⟨t325, A5, H⟩ := H
   replace H := kb_ H; rcases H with ⟨rfl, H⟩ | ⟨rfl, H⟩
   ·replace H := bi_ H; obtain ⟨t326, A7, H⟩ := H
    replace H := kb_ H; rcases H with ⟨rfl, H⟩ | ⟨rfl, H⟩
    ·replace H := kg_ H; rcases H with ⟨c9b0, H⟩ | ⟨c9b0, H⟩
     ·obtain ⟨ji10, hji10⟩ : ∃ j_ : Int, (wrap64 (x7_1 - 1)) = j_ := ⟨_, rfl⟩
      replace H : (if 0 ≤ (ji10) then (if (ji10) < (l0.length : Int) then (if ((rd_T92 l0 (ji10)).f0) ≥ ((rd_T92 l0 x7_1).f0) then (some false) else (impl_MapOk.l0 k1 l0 l0 (l0.length : Int) (wrap64 (x7_1 + 1)))) else (none)) else (none)) = some r := by first | (rw [hji10] at H; exact H) | (simp only [hji10] at H ⊢; exact H)
      (try rw [hji10] at A5)
      (try rw [hji10] at A7)
      have hji10w : (IntKind.i64.wrap (x7_1 - 1)) = ji10 := (i64_w _).trans hji10
      replace H := kdn_ H; obtain ⟨c11b0, H⟩ := H
      replace H := kdn_ H; obtain ⟨c12b0, H⟩ := H
      by_cases c13 : ((rd_T92 l0 (ji10)).f0) ≥ ((rd_T92 l0 x7_1).f0)
      ·rw [if_pos c13] at H
       have c13b0 : decide (((rd_T92 l0 x7_1).f0) ≤ ((rd_T92 l0 (ji10)).f0)) = true := decide_eq_true c13
       clear c13
       obtain rfl := si_ H
       have p323 : 0 ≤ (x7_1 : Int) := of_decide_eq_true z2_
       have q323 : x7_1 < (l0.length : Int) := of_decide_eq_true z2_
       obtain ⟨ad323, e323, hx323_0, hx323_1⟩ := at_T92 HR0.out x7_1 p323 q323
       cases e323
       replace hx323_0 := up_ HB hx323_0
       replace hx323_1 := up_ HB hx323_1
       replace p323 := eq_true p323
       replace q323 := eq_true q323
       go_wp2_with (first | ((with_reducible refine gate_dst (N := 4) rfl ?_); refine box_event ?hg (N := 4) ?hd (cs := #[.int .i64 0, .int .i64 0]) (t := 92) ?hr ?_; (case hd => rfl); (case hg => rfl); (case hr => exact z88_); intro gb324 hg w14 hbox hb; have BK324 := q_ (hbox); have GW324 := ge_ hg; have GE324 := ge_ hg; replace HB := hb_ hb; clear hb hbox hg; obtain ⟨hz_, hz_, hz_, hz_⟩ := cs2_ BK324.out) | (go_at_call 93; (with_reducible refine (impl_isKey.calls ((rd_T92 l0 x7_1).f0) true _ A5.out).mono ?_); rintro e w' ⟨rfl, ⟨nd, rfl⟩⟩; (try first | exact ⟨rfl, _, World.drewN_drewN _ _ _⟩ | exact ⟨rfl, _, Eq.trans (World.drewN_drewN _ _ _) (congrArg (World.drewN _) (Nat.add_assoc _ _ _))⟩)) | (go_at_call 94; (with_reducible refine (impl_isNum.calls ((rd_T92 l0 x7_1).f1) true _ A7.out).mono ?_); rintro e w' ⟨rfl, ⟨nd, rfl⟩⟩; (try first | exact ⟨rfl, _, World.drewN_drewN _ _ _⟩ | exact ⟨rfl, _, Eq.trans (World.drewN_drewN _ _ _) (congrArg (World.drewN _) (Nat.add_assoc _ _ _))⟩); have p327 : 0 ≤ ((ji10) : Int) := of_decide_eq_true z2_; have q327 : (ji10) < (l0.length : Int) := of_decide_eq_true z2_; obtain ⟨ad327, e327, hx327_0, hx327_1⟩ := at_T92 HR0.out (ji10) p327 q327; obtain rfl : ad323 = ad327 := z81_; have hn327_0 : ad323.block ≠ gb324 := Nat.ne_of_lt (Nat.lt_of_lt_of_le (by have := World.block_lt_of_cell? _ _ hx327_0; first | rwa [add_block] at this | exact this) GW324.out); have hn327_1 : ad323.block ≠ gb324 := Nat.ne_of_lt (Nat.lt_of_lt_of_le (by have := World.block_lt_of_cell? _ _ hx327_0; first | rwa [add_block] at this | exact this) GW324.out); replace hx327_0 := up_ HB hx327_0; replace hx327_1 := up_ HB hx327_1; replace hx327_0 := (cell_far (p := ⟨gb324, 0, none⟩) z12_ (.int .i64 ((rd_T92 l0 x7_1).f0))).trans hx327_0; replace hx327_1 := (cell_far (p := ⟨gb324, 0, none⟩) z12_ (.int .i64 ((rd_T92 l0 x7_1).f0))).trans hx327_1; replace hx327_0 := (cell_far (p := ⟨gb324, 1, none⟩) z13_ (.int .i64 ((rd_T92 l0 x7_1).f1))).trans hx327_0; replace hx327_1 := (cell_far (p := ⟨gb324, 1, none⟩) z13_ (.int .i64 ((rd_T92 l0 x7_1).f1))).trans hx327_1; (try have hy327_0 := fun (n_ : Nat) => (show ((((w14.drewN n_).setCell ⟨gb324, 0, none⟩ (.int .i64 ((rd_T92 l0 x7_1).f0))).setCell ⟨gb324, 1, none⟩ (.int .i64 ((rd_T92 l0 x7_1).f1)))).cell? _ = some _ from hx327_0)); (try have hy327_1 := fun (n_ : Nat) => (show ((((w14.drewN n_).setCell ⟨gb324, 0, none⟩ (.int .i64 ((rd_T92 l0 x7_1).f0))).setCell ⟨gb324, 1, none⟩ (.int .i64 ((rd_T92 l0 x7_1).f1)))).cell? _ = some _ from hx327_1)); clear hn327_0; clear hn327_1; replace p327 := eq_true p327; replace q327 := eq_true q327))
       repeat (go_quiet (first | ((with_reducible refine gate_dst (N := 4) rfl ?_); refine box_event ?hg (N := 4) ?hd (cs := #[.int .i64 0, .int .i64 0]) (t := 92) ?hr ?_; (case hd => rfl); (case hg => rfl); (case hr => exact z88_); intro gb324 hg w14 hbox hb; have BK324 := q_ (hbox); have GW324 := ge_ hg; have GE324 := ge_ hg; replace HB := hb_ hb; clear hb hbox hg; obtain ⟨hz_, hz_, hz_, hz_⟩ := cs2_ BK324.out) | (go_at_call 93; (with_reducible refine (impl_isKey.calls ((rd_T92 l0 x7_1).f0) true _ A5.out).mono ?_); rintro e w' ⟨rfl, ⟨nd, rfl⟩⟩; (try first | exact ⟨rfl, _, World.drewN_drewN _ _ _⟩ | exact ⟨rfl, _, Eq.trans (World.drewN_drewN _ _ _) (congrArg (World.drewN _) (Nat.add_assoc _ _ _))⟩)) | (go_at_call 94; (with_reducible refine (impl_isNum.calls ((rd_T92 l0 x7_1).f1) true _ A7.out).mono ?_); rintro e w' ⟨rfl, ⟨nd, rfl⟩⟩; (try first | exact ⟨rfl, _, World.drewN_drewN _ _ _⟩ | exact ⟨rfl, _, Eq.trans (World.drewN_drewN _ _ _) (congrArg (World.drewN _) (Nat.add_assoc _ _ _))⟩); have p327 : 0 ≤ ((ji10) : Int) := of_decide_eq_true z2_; have q327 : (ji10) < (l0.length : Int) := of_decide_eq_true z2_; obtain ⟨ad327, e327, hx327_0, hx327_1⟩ := at_T92 HR0.out (ji10) p327 q327; obtain rfl : ad323 = ad327 := z81_; have hn327_0 : ad323.block ≠ gb324 := Nat.ne_of_lt (Nat.lt_of_lt_of_le (by have := World.block_lt_of_cell? _ _ hx327_0; first | rwa [add_block] at this | exact this) GW324.out); have hn327_1 : ad323.block ≠ gb324 := Nat.ne_of_lt (Nat.lt_of_lt_of_le (by have := World.block_lt_of_cell? _ _ hx327_0; first | rwa [add_block] at this | exact this) GW324.out); replace hx327_0 := up_ HB hx327_0; replace hx327_1 := up_ HB hx327_1; replace hx327_0 := (cell_far (p := ⟨gb324, 0, none⟩) z12_ (.int .i64 ((rd_T92 l0 x7_1).f0))).trans hx327_0; replace hx327_1 := (cell_far (p := ⟨gb324, 0, none⟩) z12_ (.int .i64 ((rd_T92 l0 x7_1).f0))).trans hx327_1; replace hx327_0 := (cell_far (p := ⟨gb324, 1, none⟩) z13_ (.int .i64 ((rd_T92 l0 x7_1).f1))).trans hx327_0; replace hx327_1 := (cell_far (p := ⟨gb324, 1, none⟩) z13_ (.int .i64 ((rd_T92 l0 x7_1).f1))).trans hx327_1; (try have hy327_0 := fun (n_ : Nat) => (show ((((w14.drewN n_).setCell ⟨gb324, 0, none⟩ (.int .i64 ((rd_T92 l0 x7_1).f0))).setCell ⟨gb324, 1, none⟩ (.int .i64 ((rd_T92 l0 x7_1).f1)))).cell? _ = some _ from hx327_0)); (try have hy327_1 := fun (n_ : Nat) => (show ((((w14.drewN n_).setCell ⟨gb324, 0, none⟩ (.int .i64 ((rd_T92 l0 x7_1).f0))).setCell ⟨gb324, 1, none⟩ (.int .i64 ((rd_T92 l0 x7_1).f1)))).cell? _ = some _ from hx327_1)); clear hn327_0; clear hn327_1; replace p327 := eq_true p327; replace q327 := eq_true q327)); try go_wp2_with (first | ((with_reducible refine gate_dst (N := 4) rfl ?_); refine box_event ?hg (N := 4) ?hd (cs := #[.int .i64 0, .int .i64 0]) (t := 92) ?hr ?_; (case hd => rfl); (case hg => rfl); (case hr => exact z88_); intro gb324 hg w14 hbox hb; have BK324 := q_ (hbox); have GW324 := ge_ hg; have GE324 := ge_ hg; replace HB := hb_ hb; clear hb hbox hg; obtain ⟨hz_, hz_, hz_, hz_⟩ := cs2_ BK324.out) | (go_at_call 93; (with_reducible refine (impl_isKey.calls ((rd_T92 l0 x7_1).f0) true _ A5.out).mono ?_); rintro e w' ⟨rfl, ⟨nd, rfl⟩⟩; (try first | exact ⟨rfl, _, World.drewN_drewN _ _ _⟩ | exact ⟨rfl, _, Eq.trans (World.drewN_drewN _ _ _) (congrArg (World.drewN _) (Nat.add_assoc _ _ _))⟩)) | (go_at_call 94; (with_reducible refine (impl_isNum.calls ((rd_T92 l0 x7_1).f1) true _ A7.out).mono ?_); rintro e w' ⟨rfl, ⟨nd, rfl⟩⟩; (try first | exact ⟨rfl, _, World.drewN_drewN _ _ _⟩ | exact ⟨rfl, _, Eq.trans (World.drewN_drewN _ _ _) (congrArg (World.drewN _) (Nat.add_assoc _ _ _))⟩); have p327 : 0 ≤ ((ji10) : Int) := of_decide_eq_true z2_; have q327 : (ji10) < (l0.length : Int) := of_decide_eq_true z2_; obtain ⟨ad327, e327, hx327_0, hx327_1⟩ := at_T92 HR0.out (ji10) p327 q327; obtain rfl : ad323 = ad327 := z81_; have hn327_0 : ad323.block ≠ gb324 := Nat.ne_of_lt (Nat.lt_of_lt_of_le (by have := World.block_lt_of_cell? _ _ hx327_0; first | rwa [add_block] at this | exact this) GW324.out); have hn327_1 : ad323.block ≠ gb324 := Nat.ne_of_lt (Nat.lt_of_lt_of_le (by have := World.block_lt_of_cell? _ _ hx327_0; first | rwa [add_block] at this | exact this) GW324.out); replace hx327_0 := up_ HB hx327_0; replace hx327_1 := up_ HB hx327_1; replace hx327_0 := (cell_far (p := ⟨gb324, 0, none⟩) z12_ (.int .i64 ((rd_T92 l0 x7_1).f0))).trans hx327_0; replace hx327_1 := (cell_far (p := ⟨gb324, 0, none⟩) z12_ (.int .i64 ((rd_T92 l0 x7_1).f0))).trans hx327_1; replace hx327_0 := (cell_far (p := ⟨gb324, 1, none⟩) z13_ (.int .i64 ((rd_T92 l0 x7_1).f1))).trans hx327_0; replace hx327_1 := (cell_far (p := ⟨gb324, 1, none⟩) z13_ (.int .i64 ((rd_T92 l0 x7_1).f1))).trans hx327_1; (try have hy327_0 := fun (n_ : Nat) => (show ((((w14.drewN n_).setCell ⟨gb324, 0, none⟩ (.int .i64 ((rd_T92 l0 x7_1).f0))).setCell ⟨gb324, 1, none⟩ (.int .i64 ((rd_T92 l0 x7_1).f1)))).cell? _ = some _ from hx327_0)); (try have hy327_1 := fun (n_ : Nat) => (show ((((w14.drewN n_).setCell ⟨gb324, 0, none⟩ (.int .i64 ((rd_T92 l0 x7_1).f0))).setCell ⟨gb324, 1, none⟩ (.int .i64 ((rd_T92 l0 x7_1).f1)))).cell? _ = some _ from hx327_1)); clear hn327_0; clear hn327_1; replace p327 := eq_true p327; replace q327 := eq_true q327)))
       go_ret
       exact ⟨by first | rfl | (simp [errW_none, errW_some] <;> rfl) | (simp only [← hji10]; first | rfl | (simp [errW_none, errW_some] <;> rfl)) | (simp [*, errW_none, errW_some] <;> rfl), cb_⟩
      ·rw [if_neg c13] at H
       have c13b0 : decide (((rd_T92 l0 x7_1).f0) ≤ ((rd_T92 l0 (ji10)).f0)) = false := decide_eq_false c13
       clear c13
       have H' := q_ H
       clear H
       have p323 : 0 ≤ (x7_1 : Int) := of_decide_eq_true z2_
       have q323 : x7_1 < (l0.length : Int) := of_decide_eq_true z2_
       obtain ⟨ad323, e323, hx323_0, hx323_1⟩ := at_T92 HR0.out x7_1 p323 q323
       cases e323
       replace hx323_0 := up_ HB hx323_0
       replace hx323_1 := up_ HB hx323_1
       replace p323 := eq_true p323
       replace q323 := eq_true q323
       go_wp2_with (first | ((with_reducible refine gate_dst (N := 4) rfl ?_); refine box_event ?hg (N := 4) ?hd (cs := #[.int .i64 0, .int .i64 0]) (t := 92) ?hr ?_; (case hd => rfl); (case hg => rfl); (case hr => exact z88_); intro gb324 hg w16 hbox hb; have BK324 := q_ (hbox); have GW324 := ge_ hg; have GE324 := ge_ hg; replace HB := hb_ hb; clear hb hbox hg; obtain ⟨hz_, hz_, hz_, hz_⟩ := cs2_ BK324.out) | (go_at_call 93; (with_reducible refine (impl_isKey.calls ((rd_T92 l0 x7_1).f0) true _ A5.out).mono ?_); rintro e w' ⟨rfl, ⟨nd, rfl⟩⟩; (try first | exact ⟨rfl, _, World.drewN_drewN _ _ _⟩ | exact ⟨rfl, _, Eq.trans (World.drewN_drewN _ _ _) (congrArg (World.drewN _) (Nat.add_assoc _ _ _))⟩)) | (go_at_call 94; (with_reducible refine (impl_isNum.calls ((rd_T92 l0 x7_1).f1) true _ A7.out).mono ?_); rintro e w' ⟨rfl, ⟨nd, rfl⟩⟩; (try first | exact ⟨rfl, _, World.drewN_drewN _ _ _⟩ | exact ⟨rfl, _, Eq.trans (World.drewN_drewN _ _ _) (congrArg (World.drewN _) (Nat.add_assoc _ _ _))⟩); have p327 : 0 ≤ ((ji10) : Int) := of_decide_eq_true z2_; have q327 : (ji10) < (l0.length : Int) := of_decide_eq_true z2_; obtain ⟨ad327, e327, hx327_0, hx327_1⟩ := at_T92 HR0.out (ji10) p327 q327; obtain rfl : ad323 = ad327 := z81_; have hn327_0 : ad323.block ≠ gb324 := Nat.ne_of_lt (Nat.lt_of_lt_of_le (by have := World.block_lt_of_cell? _ _ hx327_0; first | rwa [add_block] at this | exact this) GW324.out); have hn327_1 : ad323.block ≠ gb324 := Nat.ne_of_lt (Nat.lt_of_lt_of_le (by have := World.block_lt_of_cell? _ _ hx327_0; first | rwa [add_block] at this | exact this) GW324.out); replace hx327_0 := up_ HB hx327_0; replace hx327_1 := up_ HB hx327_1; replace hx327_0 := (cell_far (p := ⟨gb324, 0, none⟩) z12_ (.int .i64 ((rd_T92 l0 x7_1).f0))).trans hx327_0; replace hx327_1 := (cell_far (p := ⟨gb324, 0, none⟩) z12_ (.int .i64 ((rd_T92 l0 x7_1).f0))).trans hx327_1; replace hx327_0 := (cell_far (p := ⟨gb324, 1, none⟩) z13_ (.int .i64 ((rd_T92 l0 x7_1).f1))).trans hx327_0; replace hx327_1 := (cell_far (p := ⟨gb324, 1, none⟩) z13_ (.int .i64 ((rd_T92 l0 x7_1).f1))).trans hx327_1; (try have hy327_0 := fun (n_ : Nat) => (show ((((w16.drewN n_).setCell ⟨gb324, 0, none⟩ (.int .i64 ((rd_T92 l0 x7_1).f0))).setCell ⟨gb324, 1, none⟩ (.int .i64 ((rd_T92 l0 x7_1).f1)))).cell? _ = some _ from hx327_0)); (try have hy327_1 := fun (n_ : Nat) => (show ((((w16.drewN n_).setCell ⟨gb324, 0, none⟩ (.int .i64 ((rd_T92 l0 x7_1).f0))).setCell ⟨gb324, 1, none⟩ (.int .i64 ((rd_T92 l0 x7_1).f1)))).cell? _ = some _ from hx327_1)); clear hn327_0; clear hn327_1; replace p327 := eq_true p327; replace q327 := eq_true q327))
       repeat (go_quiet (first | ((with_reducible refine gate_dst (N := 4) rfl ?_); refine box_event ?hg (N := 4) ?hd (cs := #[.int .i64 0, .int .i64 0]) (t := 92) ?hr ?_; (case hd => rfl); (case hg => rfl); (case hr => exact z88_); intro gb324 hg w16 hbox hb; have BK324 := q_ (hbox); have GW324 := ge_ hg; have GE324 := ge_ hg; replace HB := hb_ hb; clear hb hbox hg; obtain ⟨hz_, hz_, hz_, hz_⟩ := cs2_ BK324.out) | (go_at_call 93; (with_reducible refine (impl_isKey.calls ((rd_T92 l0 x7_1).f0) true _ A5.out).mono ?_); rintro e w' ⟨rfl, ⟨nd, rfl⟩⟩; (try first | exact ⟨rfl, _, World.drewN_drewN _ _ _⟩ | exact ⟨rfl, _, Eq.trans (World.drewN_drewN _ _ _) (congrArg (World.drewN _) (Nat.add_assoc _ _ _))⟩)) | (go_at_call 94; (with_reducible refine (impl_isNum.calls ((rd_T92 l0 x7_1).f1) true _ A7.out).mono ?_); rintro e w' ⟨rfl, ⟨nd, rfl⟩⟩; (try first | exact ⟨rfl, _, World.drewN_drewN _ _ _⟩ | exact ⟨rfl, _, Eq.trans (World.drewN_drewN _ _ _) (congrArg (World.drewN _) (Nat.add_assoc _ _ _))⟩); have p327 : 0 ≤ ((ji10) : Int) := of_decide_eq_true z2_; have q327 : (ji10) < (l0.length : Int) := of_decide_eq_true z2_; obtain ⟨ad327, e327, hx327_0, hx327_1⟩ := at_T92 HR0.out (ji10) p327 q327; obtain rfl : ad323 = ad327 := z81_; have hn327_0 : ad323.block ≠ gb324 := Nat.ne_of_lt (Nat.lt_of_lt_of_le (by have := World.block_lt_of_cell? _ _ hx327_0; first | rwa [add_block] at this | exact this) GW324.out); have hn327_1 : ad323.block ≠ gb324 := Nat.ne_of_lt (Nat.lt_of_lt_of_le (by have := World.block_lt_of_cell? _ _ hx327_0; first | rwa [add_block] at this | exact this) GW324.out); replace hx327_0 := up_ HB hx327_0; replace hx327_1 := up_ HB hx327_1; replace hx327_0 := (cell_far (p := ⟨gb324, 0, none⟩) z12_ (.int .i64 ((rd_T92 l0 x7_1).f0))).trans hx327_0; replace hx327_1 := (cell_far (p := ⟨gb324, 0, none⟩) z12_ (.int .i64 ((rd_T92 l0 x7_1).f0))).trans hx327_1; replace hx327_0 := (cell_far (p := ⟨gb324, 1, none⟩) z13_ (.int .i64 ((rd_T92 l0 x7_1).f1))).trans hx327_0; replace hx327_1 := (cell_far (p := ⟨gb324, 1, none⟩) z13_ (.int .i64 ((rd_T92 l0 x7_1).f1))).trans hx327_1; (try have hy327_0 := fun (n_ : Nat) => (show ((((w16.drewN n_).setCell ⟨gb324, 0, none⟩ (.int .i64 ((rd_T92 l0 x7_1).f0))).setCell ⟨gb324, 1, none⟩ (.int .i64 ((rd_T92 l0 x7_1).f1)))).cell? _ = some _ from hx327_0)); (try have hy327_1 := fun (n_ : Nat) => (show ((((w16.drewN n_).setCell ⟨gb324, 0, none⟩ (.int .i64 ((rd_T92 l0 x7_1).f0))).setCell ⟨gb324, 1, none⟩ (.int .i64 ((rd_T92 l0 x7_1).f1)))).cell? _ = some _ from hx327_1)); clear hn327_0; clear hn327_1; replace p327 := eq_true p327; replace q327 := eq_true q327)); try go_wp2_with (first | ((with_reducible refine gate_dst (N := 4) rfl ?_); refine box_event ?hg (N := 4) ?hd (cs := #[.int .i64 0, .int .i64 0]) (t := 92) ?hr ?_; (case hd => rfl); (case hg => rfl); (case hr => exact z88_); intro gb324 hg w16 hbox hb; have BK324 := q_ (hbox); have GW324 := ge_ hg; have GE324 := ge_ hg; replace HB := hb_ hb; clear hb hbox hg; obtain ⟨hz_, hz_, hz_, hz_⟩ := cs2_ BK324.out) | (go_at_call 93; (with_reducible refine (impl_isKey.calls ((rd_T92 l0 x7_1).f0) true _ A5.out).mono ?_); rintro e w' ⟨rfl, ⟨nd, rfl⟩⟩; (try first | exact ⟨rfl, _, World.drewN_drewN _ _ _⟩ | exact ⟨rfl, _, Eq.trans (World.drewN_drewN _ _ _) (congrArg (World.drewN _) (Nat.add_assoc _ _ _))⟩)) | (go_at_call 94; (with_reducible refine (impl_isNum.calls ((rd_T92 l0 x7_1).f1) true _ A7.out).mono ?_); rintro e w' ⟨rfl, ⟨nd, rfl⟩⟩; (try first | exact ⟨rfl, _, World.drewN_drewN _ _ _⟩ | exact ⟨rfl, _, Eq.trans (World.drewN_drewN _ _ _) (congrArg (World.drewN _) (Nat.add_assoc _ _ _))⟩); have p327 : 0 ≤ ((ji10) : Int) := of_decide_eq_true z2_; have q327 : (ji10) < (l0.length : Int) := of_decide_eq_true z2_; obtain ⟨ad327, e327, hx327_0, hx327_1⟩ := at_T92 HR0.out (ji10) p327 q327; obtain rfl : ad323 = ad327 := z81_; have hn327_0 : ad323.block ≠ gb324 := Nat.ne_of_lt (Nat.lt_of_lt_of_le (by have := World.block_lt_of_cell? _ _ hx327_0; first | rwa [add_block] at this | exact this) GW324.out); have hn327_1 : ad323.block ≠ gb324 := Nat.ne_of_lt (Nat.lt_of_lt_of_le (by have := World.block_lt_of_cell? _ _ hx327_0; first | rwa [add_block] at this | exact this) GW324.out); replace hx327_0 := up_ HB hx327_0; replace hx327_1 := up_ HB hx327_1; replace hx327_0 := (cell_far (p := ⟨gb324, 0, none⟩) z12_ (.int .i64 ((rd_T92 l0 x7_1).f0))).trans hx327_0; replace hx327_1 := (cell_far (p := ⟨gb324, 0, none⟩) z12_ (.int .i64 ((rd_T92 l0 x7_1).f0))).trans hx327_1; replace hx327_0 := (cell_far (p := ⟨gb324, 1, none⟩) z13_ (.int .i64 ((rd_T92 l0 x7_1).f1))).trans hx327_0; replace hx327_1 := (cell_far (p := ⟨gb324, 1, none⟩) z13_ (.int .i64 ((rd_T92 l0 x7_1).f1))).trans hx327_1; (try have hy327_0 := fun (n_ : Nat) => (show ((((w16.drewN n_).setCell ⟨gb324, 0, none⟩ (.int .i64 ((rd_T92 l0 x7_1).f0))).setCell ⟨gb324, 1, none⟩ (.int .i64 ((rd_T92 l0 x7_1).f1)))).cell? _ = some _ from hx327_0)); (try have hy327_1 := fun (n_ : Nat) => (show ((((w16.drewN n_).setCell ⟨gb324, 0, none⟩ (.int .i64 ((rd_T92 l0 x7_1).f0))).setCell ⟨gb324, 1, none⟩ (.int .i64 ((rd_T92 l0 x7_1).f1)))).cell? _ = some _ from hx327_1)); clear hn327_0; clear hn327_1; replace p327 := eq_true p327; replace q327 := eq_true q327)))
       go_roundg k1
       case measure => have := HK1.out; omega
       case rel => exact ⟨(wrap64 (x7_1 + 1)), z4_, H', ⟨z27_⟩, ⟨cb_⟩⟩
     ·have H' := q_ H
      clear H
      have p323 : 0 ≤ (x7_1 : Int) := of_decide_eq_true z2_
      have q323 : x7_1 < (l0.length : Int) := of_decide_eq_true z2_
      obtain ⟨ad323, e323, hx323_0, hx323_1⟩ := at_T92 HR0.out x7_1 p323 q323
      cases e323
      replace hx323_0 := up_ HB hx323_0
      replace hx323_1 := up_ HB hx323_1
      replace p323 := eq_true p323
      replace q323 := eq_true q323
      go_wp2_with (first | ((with_reducible refine gate_dst (N := 4) rfl ?_); refine box_event ?hg (N := 4) ?hd (cs := #[.int .i64 0, .int .i64 0]) (t := 92) ?hr ?_; (case hd => rfl); (case hg => rfl); (case hr => exact z88_); intro gb324 hg w18 hbox hb; have BK324 := q_ (hbox); have GW324 := ge_ hg; have GE324 := ge_ hg; replace HB := hb_ hb; clear hb hbox hg; obtain ⟨hz_, hz_, hz_, hz_⟩ := cs2_ BK324.out) | (go_at_call 93; (with_reducible refine (impl_isKey.calls ((rd_T92 l0 x7_1).f0) true _ A5.out).mono ?_); rintro e w' ⟨rfl, ⟨nd, rfl⟩⟩; (try first | exact ⟨rfl, _, World.drewN_drewN _ _ _⟩ | exact ⟨rfl, _, Eq.trans (World.drewN_drewN _ _ _) (congrArg (World.drewN _) (Nat.add_assoc _ _ _))⟩)) | (go_at_call 94; (with_reducible refine (impl_isNum.calls ((rd_T92 l0 x7_1).f1) true _ A7.out).mono ?_); rintro e w' ⟨rfl, ⟨nd, rfl⟩⟩; (try first | exact ⟨rfl, _, World.drewN_drewN _ _ _⟩ | exact ⟨rfl, _, Eq.trans (World.drewN_drewN _ _ _) (congrArg (World.drewN _) (Nat.add_assoc _ _ _))⟩)))
      repeat (go_quiet (first | ((with_reducible refine gate_dst (N := 4) rfl ?_); refine box_event ?hg (N := 4) ?hd (cs := #[.int .i64 0, .int .i64 0]) (t := 92) ?hr ?_; (case hd => rfl); (case hg => rfl); (case hr => exact z88_); intro gb324 hg w18 hbox hb; have BK324 := q_ (hbox); have GW324 := ge_ hg; have GE324 := ge_ hg; replace HB := hb_ hb; clear hb hbox hg; obtain ⟨hz_, hz_, hz_, hz_⟩ := cs2_ BK324.out) | (go_at_call 93; (with_reducible refine (impl_isKey.calls ((rd_T92 l0 x7_1).f0) true _ A5.out).mono ?_); rintro e w' ⟨rfl, ⟨nd, rfl⟩⟩; (try first | exact ⟨rfl, _, World.drewN_drewN _ _ _⟩ | exact ⟨rfl, _, Eq.trans (World.drewN_drewN _ _ _) (congrArg (World.drewN _) (Nat.add_assoc _ _ _))⟩)) | (go_at_call 94; (with_reducible refine (impl_isNum.calls ((rd_T92 l0 x7_1).f1) true _ A7.out).mono ?_); rintro e w' ⟨rfl, ⟨nd, rfl⟩⟩; (try first | exact ⟨rfl, _, World.drewN_drewN _ _ _⟩ | exact ⟨rfl, _, Eq.trans (World.drewN_drewN _ _ _) (congrArg (World.drewN _) (Nat.add_assoc _ _ _))⟩))); try go_wp2_with (first | ((with_reducible refine gate_dst (N := 4) rfl ?_); refine box_event ?hg (N := 4) ?hd (cs := #[.int .i64 0, .int .i64 0]) (t := 92) ?hr ?_; (case hd => rfl); (case hg => rfl); (case hr => exact z88_); intro gb324 hg w18 hbox hb; have BK324 := q_ (hbox); have GW324 := ge_ hg; have GE324 := ge_ hg; replace HB := hb_ hb; clear hb hbox hg; obtain ⟨hz_, hz_, hz_, hz_⟩ := cs2_ BK324.out) | (go_at_call 93; (with_reducible refine (impl_isKey.calls ((rd_T92 l0 x7_1).f0) true _ A5.out).mono ?_); rintro e w' ⟨rfl, ⟨nd, rfl⟩⟩; (try first | exact ⟨rfl, _, World.drewN_drewN _ _ _⟩ | exact ⟨rfl, _, Eq.trans (World.drewN_drewN _ _ _) (congrArg (World.drewN _) (Nat.add_assoc _ _ _))⟩)) | (go_at_call 94; (with_reducible refine (impl_isNum.calls ((rd_T92 l0 x7_1).f1) true _ A7.out).mono ?_); rintro e w' ⟨rfl, ⟨nd, rfl⟩⟩; (try first | exact ⟨rfl, _, World.drewN_drewN _ _ _⟩ | exact ⟨rfl, _, Eq.trans (World.drewN_drewN _ _ _) (congrArg (World.drewN _) (Nat.add_assoc _ _ _))⟩))))
      go_roundg k1
      case measure => have := HK1.out; omega
      case rel => exact ⟨(wrap64 (x7_1 + 1)), z4_, H', ⟨z27_⟩, ⟨cb_⟩⟩
    ·obtain rfl := si_ H
     have p323 : 0 ≤ (x7_1 : Int) := of_decide_eq_true z2_
     have q323 : x7_1 < (l0.length : Int) := of_decide_eq_true z2_
     obtain ⟨ad323, e323, hx323_0, hx323_1⟩ := at_T92 HR0.out x7_1 p323 q323
     cases e323
     replace hx323_0 := up_ HB hx323_0
     replace hx323_1 := up_ HB hx323_1
     replace p323 := eq_true p323
     replace q323 := eq_true q323
     go_wp2_with (first | ((with_reducible refine gate_dst (N := 4) rfl ?_); refine box_event ?hg (N := 4) ?hd (cs := #[.int .i64 0, .int .i64 0]) (t := 92) ?hr ?_; (case hd => rfl); (case hg => rfl); (case hr => exact z88_); intro gb324 hg w20 hbox hb; have BK324 := q_ (hbox); have GW324 := ge_ hg; have GE324 := ge_ hg; replace HB := hb_ hb; clear hb hbox hg; obtain ⟨hz_, hz_, hz_, hz_⟩ := cs2_ BK324.out) | (go_at_call 93; (with_reducible refine (impl_isKey.calls ((rd_T92 l0 x7_1).f0) true _ A5.out).mono ?_); rintro e w' ⟨rfl, ⟨nd, rfl⟩⟩; (try first | exact ⟨rfl, _, World.drewN_drewN _ _ _⟩ | exact ⟨rfl, _, Eq.trans (World.drewN_drewN _ _ _) (congrArg (World.drewN _) (Nat.add_assoc _ _ _))⟩)) | (go_at_call 94; (with_reducible refine (impl_isNum.calls ((rd_T92 l0 x7_1).f1) false _ A7.out).mono ?_); rintro e w' ⟨rfl, ⟨nd, rfl⟩⟩; (try first | exact ⟨rfl, _, World.drewN_drewN _ _ _⟩ | exact ⟨rfl, _, Eq.trans (World.drewN_drewN _ _ _) (congrArg (World.drewN _) (Nat.add_assoc _ _ _))⟩)))
     repeat (go_quiet (first | ((with_reducible refine gate_dst (N := 4) rfl ?_); refine box_event ?hg (N := 4) ?hd (cs := #[.int .i64 0, .int .i64 0]) (t := 92) ?hr ?_; (case hd => rfl); (case hg => rfl); (case hr => exact z88_); intro gb324 hg w20 hbox hb; have BK324 := q_ (hbox); have GW324 := ge_ hg; have GE324 := ge_ hg; replace HB := hb_ hb; clear hb hbox hg; obtain ⟨hz_, hz_, hz_, hz_⟩ := cs2_ BK324.out) | (go_at_call 93; (with_reducible refine (impl_isKey.calls ((rd_T92 l0 x7_1).f0) true _ A5.out).mono ?_); rintro e w' ⟨rfl, ⟨nd, rfl⟩⟩; (try first | exact ⟨rfl, _, World.drewN_drewN _ _ _⟩ | exact ⟨rfl, _, Eq.trans (World.drewN_drewN _ _ _) (congrArg (World.drewN _) (Nat.add_assoc _ _ _))⟩)) | (go_at_call 94; (with_reducible refine (impl_isNum.calls ((rd_T92 l0 x7_1).f1) false _ A7.out).mono ?_); rintro e w' ⟨rfl, ⟨nd, rfl⟩⟩; (try first | exact ⟨rfl, _, World.drewN_drewN _ _ _⟩ | exact ⟨rfl, _, Eq.trans (World.drewN_drewN _ _ _) (congrArg (World.drewN _) (Nat.add_assoc _ _ _))⟩))); try go_wp2_with (first | ((with_reducible refine gate_dst (N := 4) rfl ?_); refine box_event ?hg (N := 4) ?hd (cs := #[.int .i64 0, .int .i64 0]) (t := 92) ?hr ?_; (case hd => rfl); (case hg => rfl); (case hr => exact z88_); intro gb324 hg w20 hbox hb; have BK324 := q_ (hbox); have GW324 := ge_ hg; have GE324 := ge_ hg; replace HB := hb_ hb; clear hb hbox hg; obtain ⟨hz_, hz_, hz_, hz_⟩ := cs2_ BK324.out) | (go_at_call 93; (with_reducible refine (impl_isKey.calls ((rd_T92 l0 x7_1).f0) true _ A5.out).mono ?_); rintro e w' ⟨rfl, ⟨nd, rfl⟩⟩; (try first | exact ⟨rfl, _, World.drewN_drewN _ _ _⟩ | exact ⟨rfl, _, Eq.trans (World.drewN_drewN _ _ _) (congrArg (World.drewN _) (Nat.add_assoc _ _ _))⟩)) | (go_at_call 94; (with_reducible refine (impl_isNum.calls ((rd_T92 l0 x7_1).f1) false _ A7.out).mono ?_); rintro e w' ⟨rfl, ⟨nd, rfl⟩⟩; (try first | exact ⟨rfl, _, World.drewN_drewN _ _ _⟩ | exact ⟨rfl, _, Eq.trans (World.drewN_drewN _ _ _) (congrArg (World.drewN _) (Nat.add_assoc _ _ _))⟩))))
     go_ret
     exact ⟨z1_, cb_⟩
   ·obtain rfl := si_ H
    have p323 : 0 ≤ (x7_1 : Int) := of_decide_eq_true z2_
    have q323 : x7_1 < (l0.length : Int) := of_decide_eq_true z2_
    obtain ⟨ad323, e323, hx323_0, hx323_1⟩ := at_T92 HR0.out x7_1 p323 q323
    cases e323
    replace hx323_0 := up_ HB hx323_0
    replace hx323_1 := up_ HB hx323_1
    replace p323 := eq_true p323
    replace q323 := eq_true q323
    go_wp2_with (first | ((with_reducible refine gate_dst (N := 4) rfl ?_); refine box_event ?hg (N := 4) ?hd (cs := #[.int .i64 0, .int .i64 0]) (t := 92) ?hr ?_; (case hd => rfl); (case hg => rfl); (case hr => exact z88_); intro gb324 hg w22 hbox hb; have BK324 := q_ (hbox); have GW324 := ge_ hg; have GE324 := ge_ hg; replace HB := hb_ hb; clear hb hbox hg; obtain ⟨hz_, hz_, hz_, hz_⟩ := cs2_ BK324.out) | (go_at_call 93; (with_reducible refine (impl_isKey.calls ((rd_T92 l0 x7_1).f0) false _ A5.out).mono ?_); rintro e w' ⟨rfl, ⟨nd, rfl⟩⟩; (try first | exact ⟨rfl, _, World.drewN_drewN _ _ _⟩ | exact ⟨rfl, _, Eq.trans (World.drewN_drewN _ _ _) (congrArg (World.drewN _) (Nat.add_assoc _ _ _))⟩)))
    repeat (go_quiet (first | ((with_reducible refine gate_dst (N := 4) rfl ?_); refine box_event ?hg (N := 4) ?hd (cs := #[.int .i64 0, .int .i64 0]) (t := 92) ?hr ?_; (case hd => rfl); (case hg => rfl); (case hr => exact z88_); intro gb324 hg w22 hbox hb; have BK324 := q_ (hbox); have GW324 := ge_ hg; have GE324 := ge_ hg; replace HB := hb_ hb; clear hb hbox hg; obtain ⟨hz_, hz_, hz_, hz_⟩ := cs2_ BK324.out) | (go_at_call 93; (with_reducible refine (impl_isKey.calls ((rd_T92 l0 x7_1).f0) false _ A5.out).mono ?_); rintro e w' ⟨rfl, ⟨nd, rfl⟩⟩; (try first | exact ⟨rfl, _, World.drewN_drewN _ _ _⟩ | exact ⟨rfl, _, Eq.trans (World.drewN_drewN _ _ _) (congrArg (World.drewN _) (Nat.add_assoc _ _ _))⟩))); try go_wp2_with (first | ((with_reducible refine gate_dst (N := 4) rfl ?_); refine box_event ?hg (N := 4) ?hd (cs := #[.int .i64 0, .int .i64 0]) (t := 92) ?hr ?_; (case hd => rfl); (case hg => rfl); (case hr => exact z88_); intro gb324 hg w22 hbox hb; have BK324 := q_ (hbox); have GW324 := ge_ hg; have GE324 := ge_ hg; replace HB := hb_ hb; clear hb hbox hg; obtain ⟨hz_, hz_, hz_, hz_⟩ := cs2_ BK324.out) | (go_at_call 93; (with_reducible refine (impl_isKey.calls ((rd_T92 l0 x7_1).f0) false _ A5.out).mono ?_); rintro e w' ⟨rfl, ⟨nd, rfl⟩⟩; (try first | exact ⟨rfl, _, World.drewN_drewN _ _ _⟩ | exact ⟨rfl, _, Eq.trans (World.drewN_drewN _ _ _) (congrArg (World.drewN _) (Nat.add_assoc _ _ _))⟩))))
    go_ret
    exact ⟨z1_, cb_⟩
  ·obtain rfl := si_ H
   go_wp2
   repeat (go_quiet (fail); try go_wp2)
   go_ret
   exact ⟨z1_, cb_⟩

/-! ### impl_leafOk_f1: function 123 -/
def impl_leafOk_f1.f (a0_0 : Int) (a0_1 : Int) (a28_0 : Int) (a36_0 : Int) : Option (Bool) := (impl_within.f a0_0 a28_0 (wrap64 (a36_0 - 1))).bind fun t329 => (some (!t329))
set_option maxHeartbeats 8000000 in
set_option maxRecDepth 100000 in
theorem impl_leafOk_f1.calls (a0_0 : Int) (a0_1 : Int) (gc28 : Nat) (a28_0 : Int) (gc36 : Nat) (a36_0 : Int) (r : Bool) (w : World) (hb28 : w.heap[gc28]? = some (.cells #[.int .i64 a28_0] 3 (0, 0))) (hb36 : w.heap[gc36]? = some (.cells #[.int .i64 a36_0] 3 (0, 0))) (h : impl_leafOk_f1.f a0_0 a0_1 a28_0 a36_0 = some r) :
  Calls Try.prog 123 #[.agg #[.int .i64 a0_0, .int .i64 a0_1], .pointer (some ⟨gc28, 0, none⟩), .pointer (some ⟨gc36, 0, none⟩)] w fun e w' => e = .returned (.bool r) ∧ Below w.heap.size w w' := by
 have hu92 := Try.underlying92
 have BK28 := q_ hb28
 clear hb28
 have BK36 := q_ hb36
 clear hb36
 have HB := q_ (Below.refl w.heap.size w)
 have H := h; clear h
 unfold impl_leafOk_f1.f at H
 replace H := bi_ H; obtain ⟨t329, A4, H⟩ := H
 obtain rfl := si_ H
 go_enter Try.func123, Try.ntmps123
 go_wp2_with (first | ((with_reducible refine gate_dst (N := 3) rfl ?_); refine box_event ?hg (N := 3) ?hd (cs := #[.int .i64 a0_0, .int .i64 a0_1]) (t := 92) ?hr ?_; (case hd => rfl); (case hg => rfl); (case hr => exact z88_); intro gb328 hg w5 hbox hb; have BK328 := q_ (hbox); have GW328 := ge_ hg; have GE328 := ge_ hg; replace HB := hb_ hb; have NB28_328 := nl_ hg BK28; have NB328_28 := nr_ hg BK28; replace BK28 := rb_ BK28 hb; have NB36_328 := nl_ hg BK36; have NB328_36 := nr_ hg BK36; replace BK36 := rb_ BK36 hb; clear hb hbox hg; have hnb6 := NB328_28.out; have hnc6 := NB28_328.out; have hnb7 := NB328_36.out; have hnc7 := NB36_328.out; obtain ⟨hz_, hz_, hz_, hz_⟩ := cs2_ BK328.out; have hcz9_0 : w5.cell? ⟨gc28, 0, none⟩ = some (.int .i64 a28_0) := (blk_cell BK28.out 0).trans rfl; have hfz9_0 := blk_frozen BK28.out 0; have hcz10_0 : w5.cell? ⟨gc36, 0, none⟩ = some (.int .i64 a36_0) := (blk_cell BK36.out 0).trans rfl; have hfz10_0 := blk_frozen BK36.out 0) | ((with_reducible refine gate_callee (f := 102) rfl ?_); refine goesL_ (some 10) rfl rfl Try.func102 (by kernel_rfl) rfl #[.int .i64 a0_0, .int .i64 a28_0, .int .i64 (wrap64 (a36_0 - 1))] rfl z0_ ?_; (with_reducible refine (impl_within.calls a0_0 a28_0 (wrap64 (a36_0 - 1)) t329 _ A4.out).mono ?_); rintro e w' ⟨rfl, ⟨nd, rfl⟩⟩; refine ⟨_, rfl, ?_⟩))
 go_ret
 exact ⟨z1_, cb_⟩

/-! ### slices_IndexFunc_Pair_123: function 118 -/
def slices_IndexFunc_Pair_123.l0 : Nat → List (S92) → Int → Int → Int → Int → Option (Int)
 | 0, _, _, _, _, _ => none
 | k + 1, x0, x7, x8, x29000, x30000 => if x8 < x7 then (if 0 ≤ x8 then (if x8 < (x0.length : Int) then ((impl_leafOk_f1.f ((rd_T92 x0 x8).f0) ((rd_T92 x0 x8).f1) x29000 x30000).bind fun t331 => (if t331 = true then (some x8) else (slices_IndexFunc_Pair_123.l0 k x0 x7 (wrap64 (x8 + 1)) x29000 x30000))) else (none)) else (none)) else (some (-1))
def slices_IndexFunc_Pair_123.f (k : Nat) (l0 : List (S92)) (a28_0 : Int) (a29_0 : Int) : Option (Int) := slices_IndexFunc_Pair_123.l0 k l0 (l0.length : Int) 0 a28_0 a29_0
theorem slices_IndexFunc_Pair_123.mono_l : ∀ k, (∀ y0 y1 y2 y3 y4, LeO (slices_IndexFunc_Pair_123.l0 k y0 y1 y2 y3 y4) (slices_IndexFunc_Pair_123.l0 (k + 1) y0 y1 y2 y3 y4))
 | 0 => fun _ _ _ _ _ r h => by simp [slices_IndexFunc_Pair_123.l0] at h
 | k + 1 => by
  have ih0 := slices_IndexFunc_Pair_123.mono_l k
  ·intro y0 y1 y2 y3 y4
   unfold slices_IndexFunc_Pair_123.l0
   exact zm_
theorem slices_IndexFunc_Pair_123.mono : ∀ a0 a1 a2 k, LeO (slices_IndexFunc_Pair_123.f k a0 a1 a2) (slices_IndexFunc_Pair_123.f (k + 1) a0 a1 a2) := by
 intro a0 a1 a2 k
 have ih0 := slices_IndexFunc_Pair_123.mono_l k
 unfold slices_IndexFunc_Pair_123.f
 exact zm_
set_option maxHeartbeats 8000000 in
set_option maxRecDepth 100000 in
theorem slices_IndexFunc_Pair_123.calls (k : Nat) (A0 : Option Addr) (c0 : Nat) (l0 : List (S92)) (gc28 : Nat) (gc29 : Nat) (a28_0 : Int) (a29_0 : Int) (r : Int) (w : World) (hr0 : Kd.C k92 w A0 l0.length l0) (hc0 : l0.length ≤ c0) (hb28 : w.heap[gc28]? = some (.cells #[.int .i64 a28_0] 3 (0, 0))) (hb29 : w.heap[gc29]? = some (.cells #[.int .i64 a29_0] 3 (0, 0))) (h : slices_IndexFunc_Pair_123.f k l0 a28_0 a29_0 = some r) :
  Calls Try.prog 118 #[.slice A0 l0.length c0, .func (.func 123) #[] #[.pointer (some ⟨gc28, 0, none⟩), .pointer (some ⟨gc29, 0, none⟩)]] w fun e w' => e = .returned (.int .i64 r) ∧ Below w.heap.size w w' := by
 have hu92 := Try.underlying92
 have HR0 := q_ hr0
 have HC0 := q_ hc0
 clear hr0 hc0
 have BK28 := q_ hb28
 clear hb28
 have BK29 := q_ hb29
 clear hb29
 have HB := q_ (Below.refl w.heap.size w)
 have H := h; clear h
 unfold slices_IndexFunc_Pair_123.f at H
 have H' := q_ H
 clear H
 go_enter Try.func118, Try.ntmps118
 go_wp2
 go_loopg [8] k (fun kq v8 w' => ∃ (x8_1 : Int), v8 = .int .i64 x8_1 ∧ Aside0 (slices_IndexFunc_Pair_123.l0 kq l0 (l0.length : Int) x8_1 a28_0 a29_0 = some r) ∧ Aside0 (kq ≤ k) ∧ Aside0 (w'.heap[gc28]? = some (.cells #[.int .i64 a28_0] 3 (0, 0))) ∧ Aside0 (w'.heap[gc29]? = some (.cells #[.int .i64 a29_0] 3 (0, 0))) ∧ Aside0 (Below w.heap.size w w'))
 case atStart => exact ⟨(0), z4_, H', ⟨Nat.le_refl _⟩, ⟨z49_⟩, ⟨z50_⟩, ⟨cb_⟩⟩
 case round =>
  clear H'
  try clear c1
  try clear c2
  try clear p2
  obtain ⟨x8_1, rfl, HA, HK1, BK28, BK29, HB⟩ := hrel
  obtain ⟨k1, rfl, H⟩ := rn_ (k := gk) HA (by rintro rfl; simp only [slices_IndexFunc_Pair_123.l0])
  clear HA
  simp only [slices_IndexFunc_Pair_123.l0] at H
  replace H := kd_ H; rcases H with ⟨c3b0, H⟩ | ⟨c3b0, H⟩
  ·replace H := kdn_ H; obtain ⟨c4b0, H⟩ := H
   replace H := kdn_ H; obtain ⟨c5b0, H⟩ := H
   replace H := bi_ H; obtain ⟨t331, A6, H⟩ := H
   have HC7 := q_ H
   clear H
   have p330 : 0 ≤ (x8_1 : Int) := of_decide_eq_true z2_
   have q330 : x8_1 < (l0.length : Int) := of_decide_eq_true z2_
   obtain ⟨ad330, e330, hx330_0, hx330_1⟩ := at_T92 HR0.out x8_1 p330 q330
   cases e330
   replace hx330_0 := up_ HB hx330_0
   replace hx330_1 := up_ HB hx330_1
   replace p330 := eq_true p330
   replace q330 := eq_true q330
   go_upto_if 16 with (first | (go_at_call 123; refine calls_of_args (args' := #[.agg #[.int .i64 ((rd_T92 l0 x8_1).f0), .int .i64 ((rd_T92 l0 x8_1).f1)], .pointer (some ⟨gc28, 0, none⟩), .pointer (some ⟨gc29, 0, none⟩)]) (by first | rfl | rfl) ?_; (with_reducible refine (impl_leafOk_f1.calls ((rd_T92 l0 x8_1).f0) ((rd_T92 l0 x8_1).f1) gc28 a28_0 gc29 a29_0 t331 _ ?side1 ?side2 A6.out).mono ?_); (case side1 => exact z107_); (case side2 => exact z108_); rintro e w8 ⟨rfl, hb⟩; replace BK28 := rb_ BK28 hb; replace BK29 := rb_ BK29 hb; replace HB := hb_ hb; (try clear hb); (try clear hb2); (try clear hk); (try clear hi)))
   (try simp only [Act.put, List.setIfInBounds_toArray, List.set_cons_zero, List.set_cons_succ])
   have H := HC7.out
   clear HC7
   replace H := kb_ H; rcases H with ⟨rfl, H⟩ | ⟨rfl, H⟩
   ·obtain rfl := si_ H
    go_wp2
    go_ret
    exact ⟨z1_, cb_⟩
   ·have H' := q_ H
    clear H
    go_wp2
    go_roundg k1
    case measure => have := HK1.out; omega
    case rel => exact ⟨(wrap64 (x8_1 + 1)), z4_, H', ⟨z27_⟩, ⟨z49_⟩, ⟨z50_⟩, ⟨cb_⟩⟩
  ·obtain rfl := si_ H
   go_wp2
   go_ret
   exact ⟨z1_, cb_⟩

/-! ### slices_ContainsFunc_Pair_123: function 122 -/
def slices_ContainsFunc_Pair_123.f (k : Nat) (l0 : List (S92)) (a28_0 : Int) (a29_0 : Int) : Option (Bool) := (slices_IndexFunc_Pair_123.f k l0 a28_0 a29_0).bind fun t332 => (some (decide (t332 ≥ 0)))
theorem slices_ContainsFunc_Pair_123.mono : ∀ a0 a1 a2 k, LeO (slices_ContainsFunc_Pair_123.f k a0 a1 a2) (slices_ContainsFunc_Pair_123.f (k + 1) a0 a1 a2) := by
 intro a0 a1 a2 k
 unfold slices_ContainsFunc_Pair_123.f
 have m0 := @slices_IndexFunc_Pair_123.mono
 exact zm_
set_option maxHeartbeats 8000000 in
set_option maxRecDepth 100000 in
theorem slices_ContainsFunc_Pair_123.calls (k : Nat) (A0 : Option Addr) (c0 : Nat) (l0 : List (S92)) (gc28 : Nat) (gc29 : Nat) (a28_0 : Int) (a29_0 : Int) (r : Bool) (w : World) (hr0 : Kd.C k92 w A0 l0.length l0) (hc0 : l0.length ≤ c0) (hb28 : w.heap[gc28]? = some (.cells #[.int .i64 a28_0] 3 (0, 0))) (hb29 : w.heap[gc29]? = some (.cells #[.int .i64 a29_0] 3 (0, 0))) (h : slices_ContainsFunc_Pair_123.f k l0 a28_0 a29_0 = some r) :
  Calls Try.prog 122 #[.slice A0 l0.length c0, .func (.func 123) #[] #[.pointer (some ⟨gc28, 0, none⟩), .pointer (some ⟨gc29, 0, none⟩)]] w fun e w' => e = .returned (.bool r) ∧ Below w.heap.size w w' := by
 have HR0 := q_ hr0
 have HC0 := q_ hc0
 clear hr0 hc0
 have BK28 := q_ hb28
 clear hb28
 have BK29 := q_ hb29
 clear hb29
 have HB := q_ (Below.refl w.heap.size w)
 have H := h; clear h
 unfold slices_ContainsFunc_Pair_123.f at H
 replace H := bi_ H; obtain ⟨t332, A3, H⟩ := H
 obtain rfl := si_ H
 go_enter Try.func122, Try.ntmps122
 go_wp2_with (first | ((with_reducible refine gate_callee (f := 118) rfl ?_); refine goesL_ (some 7) rfl rfl Try.func118 (by kernel_rfl) rfl #[.slice A0 l0.length c0, .func (.func 123) #[] #[.pointer (some ⟨gc28, 0, none⟩), .pointer (some ⟨gc29, 0, none⟩)]] rfl z0_ ?_; (with_reducible refine (slices_IndexFunc_Pair_123.calls k _ _ l0 gc28 gc29 a28_0 a29_0 t332 _ ?side1 ?side2 ?side3 ?side4 A3.out).mono ?_); (case side1 => exact z109_); (case side2 => exact HC0.out); (case side3 => exact z107_); (case side4 => exact z108_); rintro e w4 ⟨rfl, hb⟩; refine ⟨_, rfl, ?_⟩; replace BK28 := rb_ BK28 hb; replace BK29 := rb_ BK29 hb; replace HB := hb_ hb; (try clear hb); (try clear hb2); (try clear hk); (try clear hi)))
 go_ret
 exact ⟨z1_, cb_⟩

/-! ### impl_leafOk: function 101 -/
def impl_leafOk.f (k : Nat) (a0_0 : Bool) (l0_1 : List (S92)) (l0_2 : List Int) (l0_3 : List (S34)) (l0_4 : List (S72)) (a1 : Int) (a2 : Int) : Option (Bool) := (impl_MapOk.f k l0_1).bind fun t336 => (if t336 = true then (if (l0_1.length : Int) > 4 then (some false) else (if (l0_2.length : Int) > 0 then (some false) else (if (l0_3.length : Int) > 0 then (some false) else (if (l0_4.length : Int) > 0 then (some false) else ((slices_ContainsFunc_Pair_123.f k l0_1 a1 a2).bind fun t337 => (some (!t337))))))) else (some false))
theorem impl_leafOk.mono : ∀ a0 a1 a2 a3 a4 a5 a6 k, LeO (impl_leafOk.f k a0 a1 a2 a3 a4 a5 a6) (impl_leafOk.f (k + 1) a0 a1 a2 a3 a4 a5 a6) := by
 intro a0 a1 a2 a3 a4 a5 a6 k
 unfold impl_leafOk.f
 have m0 := @impl_MapOk.mono
 have m1 := @slices_ContainsFunc_Pair_123.mono
 exact zm_
set_option maxHeartbeats 8000000 in
set_option maxRecDepth 100000 in
theorem impl_leafOk.calls (k : Nat) (a0_0 : Bool) (A0_1 : Option Addr) (c0_1 : Nat) (l0_1 : List (S92)) (A0_2 : Option Addr) (c0_2 : Nat) (l0_2 : List Int) (A0_3 : Option Addr) (c0_3 : Nat) (l0_3 : List (S34)) (A0_4 : Option Addr) (c0_4 : Nat) (l0_4 : List (S72)) (a1 : Int) (a2 : Int) (r : Bool) (w : World) (hr0_1 : Kd.C k92 w A0_1 l0_1.length l0_1) (hc0_1 : l0_1.length ≤ c0_1) (hr0_2 : Kd.C (Kd.int .i64) w A0_2 l0_2.length l0_2) (hc0_2 : l0_2.length ≤ c0_2) (hr0_3 : Kd.C k34 w A0_3 l0_3.length l0_3) (hc0_3 : l0_3.length ≤ c0_3) (hr0_4 : Kd.C k72 w A0_4 l0_4.length l0_4) (hc0_4 : l0_4.length ≤ c0_4) (h : impl_leafOk.f k a0_0 l0_1 l0_2 l0_3 l0_4 a1 a2 = some r) :
  Calls Try.prog 101 #[.agg #[.bool a0_0, .slice A0_1 l0_1.length c0_1, .slice A0_2 l0_2.length c0_2, .slice A0_3 l0_3.length c0_3, .slice A0_4 l0_4.length c0_4], .int .i64 a1, .int .i64 a2] w fun e w' => e = .returned (.bool r) ∧ Below w.heap.size w w' := by
 have hu34 := Try.underlying34
 have HR0_1 := q_ hr0_1
 have HC0_1 := q_ hc0_1
 clear hr0_1 hc0_1
 have HR0_2 := q_ hr0_2
 have HC0_2 := q_ hc0_2
 clear hr0_2 hc0_2
 have HR0_3 := q_ hr0_3
 have HC0_3 := q_ hc0_3
 clear hr0_3 hc0_3
 have HR0_4 := q_ hr0_4
 have HC0_4 := q_ hc0_4
 clear hr0_4 hc0_4
 have HB := q_ (Below.refl w.heap.size w)
 have H := h; clear h
 unfold impl_leafOk.f at H
 replace H := bi_ H; obtain ⟨t336, A4, H⟩ := H
 replace H := kb_ H; rcases H with ⟨rfl, H⟩ | ⟨rfl, H⟩
 ·replace H := kg_ H; rcases H with ⟨c6b0, H⟩ | ⟨c6b0, H⟩
  ·have c6b1 : decide (4 < l0_1.length) = true := decide_eq_true (by have := of_decide_eq_true c6b0; omega)
   obtain rfl := si_ H
   go_enter Try.func101, Try.ntmps101
   go_wp2_with (first | ((with_reducible refine gate_dst (N := 3) rfl ?_); (try (refine gate_guard (by rfl) ?_; dsimp only)); refine box_event ?hg (N := 3) ?hd (cs := #[.bool a0_0, .slice A0_1 l0_1.length c0_1, .slice A0_2 l0_2.length c0_2, .slice A0_3 l0_3.length c0_3, .slice A0_4 l0_4.length c0_4]) (t := 34) ?hr ?_; (case hd => rfl); (case hg => rfl); (case hr => exact z88_); intro gb333 hg w7 hbox hb; have BK333 := q_ (hbox); have GW333 := ge_ hg; have GE333 := ge_ hg; replace HB := hb_ hb; clear hb hbox hg) | ((with_reducible refine gate_dst (N := 4) rfl ?_); (try (refine gate_guard (by rfl) ?_; dsimp only)); refine box_event ?hg (N := 4) ?hd (cs := #[.int .i64 a1]) (t := 3) ?hr ?_; (case hd => rfl); (case hg => rfl); (case hr => exact z88_); intro gb334 hg w8 hbox hb; have BK334 := q_ (hbox); have GW334 := ge_ hg; have GE334 := ge_ hg; replace HB := hb_ hb; have NB333_334 := nl_ hg BK333; have NB334_333 := nr_ hg BK333; replace BK333 := rb_ BK333 hb; clear hb hbox hg) | ((with_reducible refine gate_dst (N := 5) rfl ?_); (try (refine gate_guard (by rfl) ?_; dsimp only)); refine box_event ?hg (N := 5) ?hd (cs := #[.int .i64 a2]) (t := 3) ?hr ?_; (case hd => rfl); (case hg => rfl); (case hr => exact z88_); intro gb335 hg w9 hbox hb; have BK335 := q_ (hbox); have GW335 := ge_ hg; have GE335 := ge_ hg; replace HB := hb_ hb; have NB333_335 := nl_ hg BK333; have NB335_333 := nr_ hg BK333; replace BK333 := rb_ BK333 hb; clear hb hbox hg; have hnb10 := NB333_335.out; have hnc10 := NB335_333.out; obtain ⟨hz_, hz_, hz_, hz_, hz_, hz_, hz_, hz_, hz_, hz_⟩ := cs5_ BK333.out) | ((with_reducible refine gate_callee (f := 51) rfl ?_); refine goesL_ (some 9) rfl rfl Try.func51 (by kernel_rfl) rfl #[.slice A0_1 l0_1.length c0_1] rfl z0_ ?_; (with_reducible refine (impl_MapOk.calls k _ _ l0_1 true _ ?side1 ?side2 A4.out).mono ?_); (case side1 => exact z87_); (case side2 => exact z110_); rintro e w12 ⟨rfl, hb⟩; refine ⟨_, rfl, ?_⟩; replace BK333 := rb_ BK333 hb; replace HB := hb_ hb; (try clear hb); (try clear hb2); (try clear hk); (try clear hi); obtain ⟨hz_, hz_, hz_, hz_, hz_, hz_, hz_, hz_, hz_, hz_⟩ := cs5_ BK333.out))
   go_ret
   exact ⟨z1_, cb_⟩
  ·have c6b1 : decide (4 < l0_1.length) = false := decide_eq_false (by have := of_decide_eq_false c6b0; omega)
   replace H := kg_ H; rcases H with ⟨c14b0, H⟩ | ⟨c14b0, H⟩
   ·have c14b1 : decide (0 < l0_2.length) = true := decide_eq_true (by have := of_decide_eq_true c14b0; omega)
    obtain rfl := si_ H
    go_enter Try.func101, Try.ntmps101
    go_wp2_with (first | ((with_reducible refine gate_dst (N := 3) rfl ?_); (try (refine gate_guard (by rfl) ?_; dsimp only)); refine box_event ?hg (N := 3) ?hd (cs := #[.bool a0_0, .slice A0_1 l0_1.length c0_1, .slice A0_2 l0_2.length c0_2, .slice A0_3 l0_3.length c0_3, .slice A0_4 l0_4.length c0_4]) (t := 34) ?hr ?_; (case hd => rfl); (case hg => rfl); (case hr => exact z88_); intro gb333 hg w15 hbox hb; have BK333 := q_ (hbox); have GW333 := ge_ hg; have GE333 := ge_ hg; replace HB := hb_ hb; clear hb hbox hg) | ((with_reducible refine gate_dst (N := 4) rfl ?_); (try (refine gate_guard (by rfl) ?_; dsimp only)); refine box_event ?hg (N := 4) ?hd (cs := #[.int .i64 a1]) (t := 3) ?hr ?_; (case hd => rfl); (case hg => rfl); (case hr => exact z88_); intro gb334 hg w16 hbox hb; have BK334 := q_ (hbox); have GW334 := ge_ hg; have GE334 := ge_ hg; replace HB := hb_ hb; have NB333_334 := nl_ hg BK333; have NB334_333 := nr_ hg BK333; replace BK333 := rb_ BK333 hb; clear hb hbox hg) | ((with_reducible refine gate_dst (N := 5) rfl ?_); (try (refine gate_guard (by rfl) ?_; dsimp only)); refine box_event ?hg (N := 5) ?hd (cs := #[.int .i64 a2]) (t := 3) ?hr ?_; (case hd => rfl); (case hg => rfl); (case hr => exact z88_); intro gb335 hg w17 hbox hb; have BK335 := q_ (hbox); have GW335 := ge_ hg; have GE335 := ge_ hg; replace HB := hb_ hb; have NB333_335 := nl_ hg BK333; have NB335_333 := nr_ hg BK333; replace BK333 := rb_ BK333 hb; clear hb hbox hg; have hnb18 := NB333_335.out; have hnc18 := NB335_333.out; obtain ⟨hz_, hz_, hz_, hz_, hz_, hz_, hz_, hz_, hz_, hz_⟩ := cs5_ BK333.out) | ((with_reducible refine gate_callee (f := 51) rfl ?_); refine goesL_ (some 9) rfl rfl Try.func51 (by kernel_rfl) rfl #[.slice A0_1 l0_1.length c0_1] rfl z0_ ?_; (with_reducible refine (impl_MapOk.calls k _ _ l0_1 true _ ?side1 ?side2 A4.out).mono ?_); (case side1 => exact z87_); (case side2 => exact z110_); rintro e w20 ⟨rfl, hb⟩; refine ⟨_, rfl, ?_⟩; replace BK333 := rb_ BK333 hb; replace HB := hb_ hb; (try clear hb); (try clear hb2); (try clear hk); (try clear hi); obtain ⟨hz_, hz_, hz_, hz_, hz_, hz_, hz_, hz_, hz_, hz_⟩ := cs5_ BK333.out))
    go_ret
    exact ⟨z1_, cb_⟩
   ·have c14b1 : decide (0 < l0_2.length) = false := decide_eq_false (by have := of_decide_eq_false c14b0; omega)
    replace H := kg_ H; rcases H with ⟨c22b0, H⟩ | ⟨c22b0, H⟩
    ·have c22b1 : decide (0 < l0_3.length) = true := decide_eq_true (by have := of_decide_eq_true c22b0; omega)
     obtain rfl := si_ H
     go_enter Try.func101, Try.ntmps101
     go_wp2_with (first | ((with_reducible refine gate_dst (N := 3) rfl ?_); (try (refine gate_guard (by rfl) ?_; dsimp only)); refine box_event ?hg (N := 3) ?hd (cs := #[.bool a0_0, .slice A0_1 l0_1.length c0_1, .slice A0_2 l0_2.length c0_2, .slice A0_3 l0_3.length c0_3, .slice A0_4 l0_4.length c0_4]) (t := 34) ?hr ?_; (case hd => rfl); (case hg => rfl); (case hr => exact z88_); intro gb333 hg w23 hbox hb; have BK333 := q_ (hbox); have GW333 := ge_ hg; have GE333 := ge_ hg; replace HB := hb_ hb; clear hb hbox hg) | ((with_reducible refine gate_dst (N := 4) rfl ?_); (try (refine gate_guard (by rfl) ?_; dsimp only)); refine box_event ?hg (N := 4) ?hd (cs := #[.int .i64 a1]) (t := 3) ?hr ?_; (case hd => rfl); (case hg => rfl); (case hr => exact z88_); intro gb334 hg w24 hbox hb; have BK334 := q_ (hbox); have GW334 := ge_ hg; have GE334 := ge_ hg; replace HB := hb_ hb; have NB333_334 := nl_ hg BK333; have NB334_333 := nr_ hg BK333; replace BK333 := rb_ BK333 hb; clear hb hbox hg) | ((with_reducible refine gate_dst (N := 5) rfl ?_); (try (refine gate_guard (by rfl) ?_; dsimp only)); refine box_event ?hg (N := 5) ?hd (cs := #[.int .i64 a2]) (t := 3) ?hr ?_; (case hd => rfl); (case hg => rfl); (case hr => exact z88_); intro gb335 hg w25 hbox hb; have BK335 := q_ (hbox); have GW335 := ge_ hg; have GE335 := ge_ hg; replace HB := hb_ hb; have NB333_335 := nl_ hg BK333; have NB335_333 := nr_ hg BK333; replace BK333 := rb_ BK333 hb; clear hb hbox hg; have hnb26 := NB333_335.out; have hnc26 := NB335_333.out; obtain ⟨hz_, hz_, hz_, hz_, hz_, hz_, hz_, hz_, hz_, hz_⟩ := cs5_ BK333.out) | ((with_reducible refine gate_callee (f := 51) rfl ?_); refine goesL_ (some 9) rfl rfl Try.func51 (by kernel_rfl) rfl #[.slice A0_1 l0_1.length c0_1] rfl z0_ ?_; (with_reducible refine (impl_MapOk.calls k _ _ l0_1 true _ ?side1 ?side2 A4.out).mono ?_); (case side1 => exact z87_); (case side2 => exact z110_); rintro e w28 ⟨rfl, hb⟩; refine ⟨_, rfl, ?_⟩; replace BK333 := rb_ BK333 hb; replace HB := hb_ hb; (try clear hb); (try clear hb2); (try clear hk); (try clear hi); obtain ⟨hz_, hz_, hz_, hz_, hz_, hz_, hz_, hz_, hz_, hz_⟩ := cs5_ BK333.out))
     go_ret
     exact ⟨z1_, cb_⟩
    ·have c22b1 : decide (0 < l0_3.length) = false := decide_eq_false (by have := of_decide_eq_false c22b0; omega)
     have HC30 := q_ H
     clear H
     go_enter Try.func101, Try.ntmps101
     go_upto_if 34 with (first | ((with_reducible refine gate_dst (N := 3) rfl ?_); (try (refine gate_guard (by rfl) ?_; dsimp only)); refine box_event ?hg (N := 3) ?hd (cs := #[.bool a0_0, .slice A0_1 l0_1.length c0_1, .slice A0_2 l0_2.length c0_2, .slice A0_3 l0_3.length c0_3, .slice A0_4 l0_4.length c0_4]) (t := 34) ?hr ?_; (case hd => rfl); (case hg => rfl); (case hr => exact z88_); intro gb333 hg w31 hbox hb; have BK333 := q_ (hbox); have GW333 := ge_ hg; have GE333 := ge_ hg; replace HB := hb_ hb; clear hb hbox hg) | ((with_reducible refine gate_dst (N := 4) rfl ?_); (try (refine gate_guard (by rfl) ?_; dsimp only)); refine box_event ?hg (N := 4) ?hd (cs := #[.int .i64 a1]) (t := 3) ?hr ?_; (case hd => rfl); (case hg => rfl); (case hr => exact z88_); intro gb334 hg w32 hbox hb; have BK334 := q_ (hbox); have GW334 := ge_ hg; have GE334 := ge_ hg; replace HB := hb_ hb; have NB333_334 := nl_ hg BK333; have NB334_333 := nr_ hg BK333; replace BK333 := rb_ BK333 hb; clear hb hbox hg) | ((with_reducible refine gate_dst (N := 5) rfl ?_); (try (refine gate_guard (by rfl) ?_; dsimp only)); refine box_event ?hg (N := 5) ?hd (cs := #[.int .i64 a2]) (t := 3) ?hr ?_; (case hd => rfl); (case hg => rfl); (case hr => exact z88_); intro gb335 hg w33 hbox hb; have BK335 := q_ (hbox); have GW335 := ge_ hg; have GE335 := ge_ hg; replace HB := hb_ hb; have NB333_335 := nl_ hg BK333; have NB335_333 := nr_ hg BK333; replace BK333 := rb_ BK333 hb; have NB334_335 := nl_ hg BK334; have NB335_334 := nr_ hg BK334; replace BK334 := rb_ BK334 hb; clear hb hbox hg; have hnb34 := NB333_334.out; have hnc34 := NB334_333.out; have hnb35 := NB333_335.out; have hnc35 := NB335_333.out; obtain ⟨hz_, hz_, hz_, hz_, hz_, hz_, hz_, hz_, hz_, hz_⟩ := cs5_ BK333.out) | ((with_reducible refine gate_callee (f := 51) rfl ?_); refine goesL_ (some 9) rfl rfl Try.func51 (by kernel_rfl) rfl #[.slice A0_1 l0_1.length c0_1] rfl z0_ ?_; (with_reducible refine (impl_MapOk.calls k _ _ l0_1 true _ ?side1 ?side2 A4.out).mono ?_); (case side1 => exact z87_); (case side2 => exact z110_); rintro e w37 ⟨rfl, hb⟩; refine ⟨_, rfl, ?_⟩; replace BK333 := rb_ BK333 hb; replace BK334 := rb_ BK334 hb; replace BK335 := rb_ BK335 hb; replace HB := hb_ hb; (try clear hb); (try clear hb2); (try clear hk); (try clear hi); obtain ⟨hz_, hz_, hz_, hz_, hz_, hz_, hz_, hz_, hz_, hz_⟩ := cs5_ BK333.out))
     (try simp only [Act.put, List.setIfInBounds_toArray, List.set_cons_zero, List.set_cons_succ])
     have H := HC30.out
     clear HC30
     replace H := kg_ H; rcases H with ⟨c39b0, H⟩ | ⟨c39b0, H⟩
     ·have c39b1 : decide (0 < l0_4.length) = true := decide_eq_true (by have := of_decide_eq_true c39b0; omega)
      (first | rw [c39b0] | rw [c39b1] | (simp only [i64_w, i32_w]; first | rw [c39b0] | rw [c39b1]) | rw [c39b2] | skip)
      obtain rfl := si_ H
      go_wp2
      go_ret
      exact ⟨z1_, cb_⟩
     ·have c39b1 : decide (0 < l0_4.length) = false := decide_eq_false (by have := of_decide_eq_false c39b0; omega)
      (first | rw [c39b0] | rw [c39b1] | (simp only [i64_w, i32_w]; first | rw [c39b0] | rw [c39b1]) | rw [c39b2] | skip)
      replace H := bi_ H; obtain ⟨t337, A40, H⟩ := H
      obtain rfl := si_ H
      have hnb41 := NB333_334.out
      have hnc41 := NB334_333.out
      have hnb42 := NB333_335.out
      have hnc42 := NB335_333.out
      obtain ⟨hz_, hz_, hz_, hz_, hz_, hz_, hz_, hz_, hz_, hz_⟩ := cs5_ BK333.out
      go_wp2_with (first | ((with_reducible refine gate_callee (f := 122) rfl ?_); refine goesL_ (some 38) rfl rfl Try.func122 (by kernel_rfl) rfl #[.slice A0_1 l0_1.length c0_1, .func (.func 123) #[] #[.pointer (some ⟨gb334, 0, none⟩), .pointer (some ⟨gb335, 0, none⟩)]] rfl z0_ ?_; (with_reducible refine (slices_ContainsFunc_Pair_123.calls k _ _ l0_1 gb334 gb335 a1 a2 t337 _ ?side1 ?side2 ?side3 ?side4 A40.out).mono ?_); (case side1 => exact z87_); (case side2 => exact z110_); (case side3 => (with_reducible repeat (first | refine blk_drewN ?_ _ | refine blk_drew ?_ | refine blk_alloc ?_ _)); exact BK334.out); (case side4 => (with_reducible repeat (first | refine blk_drewN ?_ _ | refine blk_drew ?_ | refine blk_alloc ?_ _)); exact BK335.out); rintro e w44 ⟨rfl, hb⟩; refine ⟨_, rfl, ?_⟩; replace BK334 := rb_ BK334 hb; replace BK335 := rb_ BK335 hb; replace HB := hb_ hb; (try clear hb); (try clear hb2); (try clear hk); (try clear hi)))
      go_ret
      exact ⟨z1_, cb_⟩
 ·obtain rfl := si_ H
  go_enter Try.func101, Try.ntmps101
  go_wp2_with (first | ((with_reducible refine gate_dst (N := 3) rfl ?_); (try (refine gate_guard (by rfl) ?_; dsimp only)); refine box_event ?hg (N := 3) ?hd (cs := #[.bool a0_0, .slice A0_1 l0_1.length c0_1, .slice A0_2 l0_2.length c0_2, .slice A0_3 l0_3.length c0_3, .slice A0_4 l0_4.length c0_4]) (t := 34) ?hr ?_; (case hd => rfl); (case hg => rfl); (case hr => exact z88_); intro gb333 hg w45 hbox hb; have BK333 := q_ (hbox); have GW333 := ge_ hg; have GE333 := ge_ hg; replace HB := hb_ hb; clear hb hbox hg) | ((with_reducible refine gate_dst (N := 4) rfl ?_); (try (refine gate_guard (by rfl) ?_; dsimp only)); refine box_event ?hg (N := 4) ?hd (cs := #[.int .i64 a1]) (t := 3) ?hr ?_; (case hd => rfl); (case hg => rfl); (case hr => exact z88_); intro gb334 hg w46 hbox hb; have BK334 := q_ (hbox); have GW334 := ge_ hg; have GE334 := ge_ hg; replace HB := hb_ hb; have NB333_334 := nl_ hg BK333; have NB334_333 := nr_ hg BK333; replace BK333 := rb_ BK333 hb; clear hb hbox hg) | ((with_reducible refine gate_dst (N := 5) rfl ?_); (try (refine gate_guard (by rfl) ?_; dsimp only)); refine box_event ?hg (N := 5) ?hd (cs := #[.int .i64 a2]) (t := 3) ?hr ?_; (case hd => rfl); (case hg => rfl); (case hr => exact z88_); intro gb335 hg w47 hbox hb; have BK335 := q_ (hbox); have GW335 := ge_ hg; have GE335 := ge_ hg; replace HB := hb_ hb; have NB333_335 := nl_ hg BK333; have NB335_333 := nr_ hg BK333; replace BK333 := rb_ BK333 hb; clear hb hbox hg; have hnb48 := NB333_335.out; have hnc48 := NB335_333.out; obtain ⟨hz_, hz_, hz_, hz_, hz_, hz_, hz_, hz_, hz_, hz_⟩ := cs5_ BK333.out) | ((with_reducible refine gate_callee (f := 51) rfl ?_); refine goesL_ (some 9) rfl rfl Try.func51 (by kernel_rfl) rfl #[.slice A0_1 l0_1.length c0_1] rfl z0_ ?_; (with_reducible refine (impl_MapOk.calls k _ _ l0_1 false _ ?side1 ?side2 A4.out).mono ?_); (case side1 => exact z87_); (case side2 => exact z110_); rintro e w50 ⟨rfl, hb⟩; refine ⟨_, rfl, ?_⟩; replace HB := hb_ hb; (try clear hb); (try clear hb2); (try clear hk); (try clear hi)))
  go_ret
  exact ⟨z1_, cb_⟩

/-! ### impl_MsgOk: function 105 -/
def impl_MsgOk.j0 : Nat → Int → Bool → Int → Int → Int → Option (Bool)
 | 0, _, _, _, _, _ => none
 | k + 1, x8, x9, x339000, x339001, x339002 => if x9 = true then ((impl_isNum.f x339002).bind fun t340 => (some t340)) else (if x8 = 2 then (some (x339002 == 0)) else (if x8 = 4 then (some (x339002 == 0)) else (some false)))
def impl_MsgOk.f (k : Nat) (a0_0 : Int) (a0_1 : Int) (a0_2 : Int) : Option (Bool) := (impl_isKey.f a0_1).bind fun t339 => (if t339 = true then (if a0_0 = 1 then (impl_MsgOk.j0 k a0_0 (a0_0 == 1) a0_0 a0_1 a0_2) else (impl_MsgOk.j0 k a0_0 (a0_0 == 3) a0_0 a0_1 a0_2)) else (some false))
theorem impl_MsgOk.mono_l : ∀ k, (∀ y0 y1 y2 y3 y4, LeO (impl_MsgOk.j0 k y0 y1 y2 y3 y4) (impl_MsgOk.j0 (k + 1) y0 y1 y2 y3 y4))
 | 0 => fun _ _ _ _ _ r h => by simp [impl_MsgOk.j0] at h
 | k + 1 => by
  have ih0 := impl_MsgOk.mono_l k
  ·intro y0 y1 y2 y3 y4
   unfold impl_MsgOk.j0
   exact zm_
theorem impl_MsgOk.mono : ∀ a0 a1 a2 k, LeO (impl_MsgOk.f k a0 a1 a2) (impl_MsgOk.f (k + 1) a0 a1 a2) := by
 intro a0 a1 a2 k
 have ih0 := impl_MsgOk.mono_l k
 unfold impl_MsgOk.f
 exact zm_
set_option maxHeartbeats 8000000 in
set_option maxRecDepth 100000 in
theorem impl_MsgOk.calls (k : Nat) (a0_0 : Int) (a0_1 : Int) (a0_2 : Int) (r : Bool) (w : World) (h : impl_MsgOk.f k a0_0 a0_1 a0_2 = some r) :
  Calls Try.prog 105 #[.agg #[.int .i64 a0_0, .int .i64 a0_1, .int .i64 a0_2]] w fun e w' => e = .returned (.bool r) ∧ Below w.heap.size w w' := by
 have hu72 := Try.underlying72
 have HB := q_ (Below.refl w.heap.size w)
 have H := h; clear h
 unfold impl_MsgOk.f at H
 replace H := bi_ H; obtain ⟨t339, A2, H⟩ := H
 have HC3 := q_ H
 clear H
 go_enter Try.func105, Try.ntmps105
 go_upto_if 6 with (first | ((with_reducible refine gate_dst (N := 1) rfl ?_); refine box_event ?hg (N := 1) ?hd (cs := #[.int .i64 a0_0, .int .i64 a0_1, .int .i64 a0_2]) (t := 72) ?hr ?_; (case hd => rfl); (case hg => rfl); (case hr => exact z88_); intro gb338 hg w4 hbox hb; have BK338 := q_ (hbox); have GW338 := ge_ hg; have GE338 := ge_ hg; replace HB := hb_ hb; clear hb hbox hg; obtain ⟨hz_, hz_, hz_, hz_, hz_, hz_⟩ := cs3_ BK338.out) | ((with_reducible refine gate_callee (f := 93) rfl ?_); refine goesL_ (some 5) rfl rfl Try.func93 (by kernel_rfl) rfl #[.int .i64 a0_1] rfl z0_ ?_; (with_reducible refine (impl_isKey.calls a0_1 t339 _ A2.out).mono ?_); rintro e w' ⟨rfl, ⟨nd, rfl⟩⟩; refine ⟨_, rfl, ?_⟩))
 (try simp only [Act.put, List.setIfInBounds_toArray, List.set_cons_zero, List.set_cons_succ])
 have H := HC3.out
 clear HC3
 replace H := kb_ H; rcases H with ⟨rfl, H⟩ | ⟨rfl, H⟩
 ·have HC7 := q_ H
  clear H
  obtain ⟨hz_, hz_, hz_, hz_, hz_, hz_⟩ := cs3_ BK338.out
  go_upto_if 9 with (fail)
  go_cut [9] (fun v9 wc => ∃ (kq : Nat) (x9_6 : Bool), v9 = .bool x9_6 ∧ Aside0 (impl_MsgOk.j0 kq a0_0 x9_6 a0_0 a0_1 a0_2 = some r) ∧ Aside0 (kq ≤ k) ∧ Aside0 (wc.heap[gb338]? = some (.cells #[.int .i64 a0_0, .int .i64 a0_1, .int .i64 a0_2] 72 (0, 0))) ∧ Aside0 (Below w.heap.size w wc))
  case first =>
   have H := HC7.out
   clear HC7
   replace H := ke_ H; rcases H with ⟨c9b0, c9b1, H⟩ | ⟨c9, c9b0, c9b1, H⟩
   ·(first | rw [c9b0] | rw [c9b1] | (simp only [i64_w, i32_w]; first | rw [c9b0] | rw [c9b1]) | rw [c9b2] | skip)
    have H' := q_ H
    clear H
    go_wp2
    go_meet
    case rel => exact ⟨_, ((a0_0 == 1)), z4_, H', ⟨z30_⟩, ⟨z63_⟩, ⟨cb_⟩⟩
   ·(first | rw [c9b0] | rw [c9b1] | (simp only [i64_w, i32_w]; first | rw [c9b0] | rw [c9b1]) | rw [c9b2] | skip)
    have H' := q_ H
    clear H
    go_wp2
    go_meet
    case rel => exact ⟨_, ((a0_0 == 3)), z4_, H', ⟨z30_⟩, ⟨z63_⟩, ⟨cb_⟩⟩
  case rest =>
   clear HC7
   try clear c1
   try clear p2
   try clear c6
   try clear c9
   try clear c9b0
   try clear c9b1
   try clear c9b2
   repeat clear hz_
   obtain ⟨kq, x9_6, rfl, HA, HJ6, BK338, HB⟩ := hcut
   obtain ⟨kj6, rfl, H⟩ := rn_ (k := kq) HA (by rintro rfl; simp only [impl_MsgOk.j0])
   clear HA
   simp only [impl_MsgOk.j0] at H
   replace H := kb_ H; rcases H with ⟨rfl, H⟩ | ⟨rfl, H⟩
   ·replace H := bi_ H; obtain ⟨t340, A11, H⟩ := H
    obtain rfl := si_ H
    obtain ⟨hz_, hz_, hz_, hz_, hz_, hz_⟩ := cs3_ BK338.out
    go_wp2_with (first | ((with_reducible refine gate_callee (f := 94) rfl ?_); refine goesL_ (some 14) rfl rfl Try.func94 (by kernel_rfl) rfl #[.int .i64 a0_2] rfl z0_ ?_; (with_reducible refine (impl_isNum.calls a0_2 t340 _ A11.out).mono ?_); rintro e w' ⟨rfl, ⟨nd, rfl⟩⟩; refine ⟨_, rfl, ?_⟩))
    go_ret
    exact ⟨z1_, cb_⟩
   ·replace H := ke_ H; rcases H with ⟨c13b0, c13b1, H⟩ | ⟨c13, c13b0, c13b1, H⟩
    ·obtain rfl := si_ H
     obtain ⟨hz_, hz_, hz_, hz_, hz_, hz_⟩ := cs3_ BK338.out
     go_wp2
     go_ret
     exact ⟨z1_, cb_⟩
    ·replace H := ke_ H; rcases H with ⟨c15b0, c15b1, H⟩ | ⟨c15, c15b0, c15b1, H⟩
     ·obtain rfl := si_ H
      obtain ⟨hz_, hz_, hz_, hz_, hz_, hz_⟩ := cs3_ BK338.out
      go_wp2
      go_ret
      exact ⟨z1_, cb_⟩
     ·obtain rfl := si_ H
      go_wp2
      go_ret
      exact ⟨z1_, cb_⟩
 ·obtain rfl := si_ H
  go_wp2
  go_ret
  exact ⟨z1_, cb_⟩

/-! ### impl_depthOf_f1: function 104 -/
def impl_depthOf_f1.f (k : Nat) (a0_0 : Int) (a0_1 : Int) (a0_2 : Int) (a28_0 : Int) (a36_0 : Int) : Option (Bool) := (impl_MsgOk.f k a0_0 a0_1 a0_2).bind fun t342 => (if t342 = true then (if a0_0 = 4 then (some true) else ((impl_within.f a0_1 a28_0 (wrap64 (a36_0 - 1))).bind fun t343 => (some (!t343)))) else (some true))
theorem impl_depthOf_f1.mono : ∀ a0 a1 a2 a3 a4 k, LeO (impl_depthOf_f1.f k a0 a1 a2 a3 a4) (impl_depthOf_f1.f (k + 1) a0 a1 a2 a3 a4) := by
 intro a0 a1 a2 a3 a4 k
 unfold impl_depthOf_f1.f
 have m0 := @impl_MsgOk.mono
 exact zm_
set_option maxHeartbeats 8000000 in
set_option maxRecDepth 100000 in
theorem impl_depthOf_f1.calls (k : Nat) (a0_0 : Int) (a0_1 : Int) (a0_2 : Int) (gc28 : Nat) (a28_0 : Int) (gc36 : Nat) (a36_0 : Int) (r : Bool) (w : World) (hb28 : w.heap[gc28]? = some (.cells #[.int .i64 a28_0] 3 (0, 0))) (hb36 : w.heap[gc36]? = some (.cells #[.int .i64 a36_0] 3 (0, 0))) (h : impl_depthOf_f1.f k a0_0 a0_1 a0_2 a28_0 a36_0 = some r) :
  Calls Try.prog 104 #[.agg #[.int .i64 a0_0, .int .i64 a0_1, .int .i64 a0_2], .pointer (some ⟨gc28, 0, none⟩), .pointer (some ⟨gc36, 0, none⟩)] w fun e w' => e = .returned (.bool r) ∧ Below w.heap.size w w' := by
 have hu72 := Try.underlying72
 have BK28 := q_ hb28
 clear hb28
 have BK36 := q_ hb36
 clear hb36
 have HB := q_ (Below.refl w.heap.size w)
 have H := h; clear h
 unfold impl_depthOf_f1.f at H
 replace H := bi_ H; obtain ⟨t342, A4, H⟩ := H
 replace H := kb_ H; rcases H with ⟨rfl, H⟩ | ⟨rfl, H⟩
 ·replace H := ke_ H; rcases H with ⟨c6b0, c6b1, H⟩ | ⟨c6, c6b0, c6b1, H⟩
  ·obtain rfl := si_ H
   go_enter Try.func104, Try.ntmps104
   go_wp2_with (first | ((with_reducible refine gate_dst (N := 3) rfl ?_); refine box_event ?hg (N := 3) ?hd (cs := #[.int .i64 a0_0, .int .i64 a0_1, .int .i64 a0_2]) (t := 72) ?hr ?_; (case hd => rfl); (case hg => rfl); (case hr => exact z88_); intro gb341 hg w7 hbox hb; have BK341 := q_ (hbox); have GW341 := ge_ hg; have GE341 := ge_ hg; replace HB := hb_ hb; clear hb hbox hg; obtain ⟨hz_, hz_, hz_, hz_, hz_, hz_⟩ := cs3_ BK341.out) | ((with_reducible refine gate_callee (f := 105) rfl ?_); refine goesL_ (some 6) rfl rfl Try.func105 (by kernel_rfl) rfl #[.agg #[.int .i64 a0_0, .int .i64 a0_1, .int .i64 a0_2]] rfl z0_ ?_; (with_reducible refine (impl_MsgOk.calls k a0_0 a0_1 a0_2 true _ A4.out).mono ?_); rintro e w9 ⟨rfl, hb⟩; refine ⟨_, rfl, ?_⟩; replace BK341 := rb_ BK341 hb; replace HB := hb_ hb; (try clear hb); (try clear hb2); (try clear hk); (try clear hi); obtain ⟨hz_, hz_, hz_, hz_, hz_, hz_⟩ := cs3_ BK341.out))
   go_ret
   exact ⟨z1_, cb_⟩
  ·replace H := bi_ H; obtain ⟨t343, A11, H⟩ := H
   obtain rfl := si_ H
   go_enter Try.func104, Try.ntmps104
   go_wp2_with (first | ((with_reducible refine gate_dst (N := 3) rfl ?_); refine box_event ?hg (N := 3) ?hd (cs := #[.int .i64 a0_0, .int .i64 a0_1, .int .i64 a0_2]) (t := 72) ?hr ?_; (case hd => rfl); (case hg => rfl); (case hr => exact z88_); intro gb341 hg w12 hbox hb; have BK341 := q_ (hbox); have GW341 := ge_ hg; have GE341 := ge_ hg; replace HB := hb_ hb; have NB28_341 := nl_ hg BK28; have NB341_28 := nr_ hg BK28; replace BK28 := rb_ BK28 hb; have NB36_341 := nl_ hg BK36; have NB341_36 := nr_ hg BK36; replace BK36 := rb_ BK36 hb; clear hb hbox hg; have hnb13 := NB341_28.out; have hnc13 := NB28_341.out; have hnb14 := NB341_36.out; have hnc14 := NB36_341.out; obtain ⟨hz_, hz_, hz_, hz_, hz_, hz_⟩ := cs3_ BK341.out) | ((with_reducible refine gate_callee (f := 105) rfl ?_); refine goesL_ (some 6) rfl rfl Try.func105 (by kernel_rfl) rfl #[.agg #[.int .i64 a0_0, .int .i64 a0_1, .int .i64 a0_2]] rfl z0_ ?_; (with_reducible refine (impl_MsgOk.calls k a0_0 a0_1 a0_2 true _ A4.out).mono ?_); rintro e w16 ⟨rfl, hb⟩; refine ⟨_, rfl, ?_⟩; replace BK28 := rb_ BK28 hb; replace BK36 := rb_ BK36 hb; replace BK341 := rb_ BK341 hb; replace HB := hb_ hb; (try clear hb); (try clear hb2); (try clear hk); (try clear hi); obtain ⟨hz_, hz_, hz_, hz_, hz_, hz_⟩ := cs3_ BK341.out; have hcz18_0 : w16.cell? ⟨gc28, 0, none⟩ = some (.int .i64 a28_0) := (blk_cell BK28.out 0).trans rfl; have hfz18_0 := blk_frozen BK28.out 0; have hcz19_0 : w16.cell? ⟨gc36, 0, none⟩ = some (.int .i64 a36_0) := (blk_cell BK36.out 0).trans rfl; have hfz19_0 := blk_frozen BK36.out 0) | (go_at_call 102; (with_reducible refine (impl_within.calls a0_1 a28_0 (wrap64 (a36_0 - 1)) t343 _ A11.out).mono ?_); rintro e w' ⟨rfl, ⟨nd, rfl⟩⟩))
   go_ret
   exact ⟨z1_, cb_⟩
 ·obtain rfl := si_ H
  go_enter Try.func104, Try.ntmps104
  go_wp2_with (first | ((with_reducible refine gate_dst (N := 3) rfl ?_); refine box_event ?hg (N := 3) ?hd (cs := #[.int .i64 a0_0, .int .i64 a0_1, .int .i64 a0_2]) (t := 72) ?hr ?_; (case hd => rfl); (case hg => rfl); (case hr => exact z88_); intro gb341 hg w20 hbox hb; have BK341 := q_ (hbox); have GW341 := ge_ hg; have GE341 := ge_ hg; replace HB := hb_ hb; clear hb hbox hg; obtain ⟨hz_, hz_, hz_, hz_, hz_, hz_⟩ := cs3_ BK341.out) | ((with_reducible refine gate_callee (f := 105) rfl ?_); refine goesL_ (some 6) rfl rfl Try.func105 (by kernel_rfl) rfl #[.agg #[.int .i64 a0_0, .int .i64 a0_1, .int .i64 a0_2]] rfl z0_ ?_; (with_reducible refine (impl_MsgOk.calls k a0_0 a0_1 a0_2 false _ A4.out).mono ?_); rintro e w22 ⟨rfl, hb⟩; refine ⟨_, rfl, ?_⟩; replace HB := hb_ hb; (try clear hb); (try clear hb2); (try clear hk); (try clear hi)))
  go_ret
  exact ⟨z1_, cb_⟩

end Go.Proofs.Ytfnndcpaldkkoaa.PFnExactTreeMap
