-- Written by a program of this session, which goes by the kit's print. Not trusted: Lean checks it.
import Derived.Test.YtphlmbhjeoljoaaPFnExactDox0
import Derived.Test.YtphlmbhjeoljoaaPFnExactDox1
namespace Go.Proofs.Ytphlmbhjeoljoaa.PFnExactDo
open Go.RowKit Go.Proofs.YtphlmbhjeoljoaaW.PrintWords Go.Proofs.YtphlmbhjeoljoaaW.PrintLast Go.Proofs.YtphlmbhjeoljoaaW.PrintMore
attribute [local go_sem] max2_int min2_int max_two min_two max_three min_three max_four min_four   -- for this text's walks alone
set_option linter.unusedVariables false
set_option linter.unusedSimpArgs false

/-! ### spec_Do: function 72 -/
def spec_Do.l0 : Nat → List (S168) → Int → List ByteArray → List (S166) → Option (List ByteArray × (List (S166)))
 | 0, _, _, _, _ => none
 | k + 1, x1, x6, x131000, x131001 => if x6 < (x1.length : Int) then (if 0 ≤ x6 then ((spec_l1In.f ((rd_T168 x1 x6).f0) 0 (wrap64 ((x131000.length : Int) - 1))).bind fun t133 => (if t133 = true then (if 0 ≤ ((rd_T168 x1 x6).f0) then (if ((rd_T168 x1 x6).f0) < (x131000.length : Int) then ((some (x131000.set (((rd_T168 x1 x6).f0) : Int).toNat ((rd_T168 x1 x6).f1) : List ByteArray)).bind fun y134 => (if ((rd_T168 x1 x6).f0) = (-1) then (if (wrap64 ((-1) - ((rd_T168 x1 x6).f0))) < (x131001.length : Int) then (if 0 ≤ (wrap64 ((-1) - ((rd_T168 x1 x6).f0))) then (spec_Do.l0 k x1 (wrap64 (x6 + 1)) y134 (x131001.set ((wrap64 ((-1) - ((rd_T168 x1 x6).f0))) : Int).toNat (⟨(rd_T168 x1 x6).f2.f0, (rd_T168 x1 x6).f2.f1⟩ : S166))) else (none)) else (spec_Do.l0 k x1 (wrap64 (x6 + 1)) y134 x131001)) else (if ((rd_T168 x1 x6).f0) = (-2) then (if (wrap64 ((-1) - ((rd_T168 x1 x6).f0))) < (x131001.length : Int) then (if 0 ≤ (wrap64 ((-1) - ((rd_T168 x1 x6).f0))) then (spec_Do.l0 k x1 (wrap64 (x6 + 1)) y134 (x131001.set ((wrap64 ((-1) - ((rd_T168 x1 x6).f0))) : Int).toNat (⟨(rd_T168 x1 x6).f2.f0, (rd_T168 x1 x6).f2.f1⟩ : S166))) else (none)) else (spec_Do.l0 k x1 (wrap64 (x6 + 1)) y134 x131001)) else (spec_Do.l0 k x1 (wrap64 (x6 + 1)) y134 x131001)))) else (none)) else (none)) else (if ((rd_T168 x1 x6).f0) = (-1) then (if (wrap64 ((-1) - ((rd_T168 x1 x6).f0))) < (x131001.length : Int) then (if 0 ≤ (wrap64 ((-1) - ((rd_T168 x1 x6).f0))) then (spec_Do.l0 k x1 (wrap64 (x6 + 1)) x131000 (x131001.set ((wrap64 ((-1) - ((rd_T168 x1 x6).f0))) : Int).toNat (⟨(rd_T168 x1 x6).f2.f0, (rd_T168 x1 x6).f2.f1⟩ : S166))) else (none)) else (spec_Do.l0 k x1 (wrap64 (x6 + 1)) x131000 x131001)) else (if ((rd_T168 x1 x6).f0) = (-2) then (if (wrap64 ((-1) - ((rd_T168 x1 x6).f0))) < (x131001.length : Int) then (if 0 ≤ (wrap64 ((-1) - ((rd_T168 x1 x6).f0))) then (spec_Do.l0 k x1 (wrap64 (x6 + 1)) x131000 (x131001.set ((wrap64 ((-1) - ((rd_T168 x1 x6).f0))) : Int).toNat (⟨(rd_T168 x1 x6).f2.f0, (rd_T168 x1 x6).f2.f1⟩ : S166))) else (none)) else (spec_Do.l0 k x1 (wrap64 (x6 + 1)) x131000 x131001)) else (spec_Do.l0 k x1 (wrap64 (x6 + 1)) x131000 x131001))))) else (none)) else (some (x131000, x131001))
def spec_Do.f (k : Nat) (l0_0 : List ByteArray) (l0_1 : List (S166)) (l1 : List (S168)) : Option (List ByteArray × (List (S166))) := (spec_l6Copy.f l0_0 l0_1).bind fun bt124 => (spec_Do.l0 k l1 0 bt124.1 bt124.2)
theorem spec_Do.mono_l : ∀ k, (∀ y0 y1 y2 y3, LeO (spec_Do.l0 k y0 y1 y2 y3) (spec_Do.l0 (k + 1) y0 y1 y2 y3))
 | 0 => fun _ _ _ _ r h => by simp [spec_Do.l0] at h
 | k + 1 => by
  have ih0 := spec_Do.mono_l k
  ·intro y0 y1 y2 y3
   unfold spec_Do.l0
   repeat' first
   | (with_reducible exact ih0 _ _ _ _)
   | (with_reducible exact LeO.refl _)
   | (with_reducible exact LeO.none _)
   | (with_reducible refine LeO.ite ?_ ?_)
   | (with_reducible refine LeO.bind ?_ (fun _ => ?_))
   | exact ih0 _ _ _ _
   | exact LeO.none _
   | refine LeO.ite ?_ ?_
   | refine LeO.bind ?_ (fun _ => ?_)
theorem spec_Do.mono : ∀ a0 a1 a2 k, LeO (spec_Do.f k a0 a1 a2) (spec_Do.f (k + 1) a0 a1 a2) := by
 intro a0 a1 a2 k
 have ih0 := spec_Do.mono_l k
 unfold spec_Do.f
 repeat' first
   | (with_reducible exact ih0 _ _ _ _)
   | (with_reducible exact LeO.refl _)
   | (with_reducible exact LeO.none _)
   | (with_reducible refine LeO.ite ?_ ?_)
   | (with_reducible refine LeO.bind ?_ (fun _ => ?_))
   | exact ih0 _ _ _ _
   | exact LeO.none _
   | refine LeO.ite ?_ ?_
   | refine LeO.bind ?_ (fun _ => ?_)
set_option maxHeartbeats 8000000 in
set_option maxRecDepth 100000 in
theorem spec_Do.calls (k : Nat) (A0_0 : Option Addr) (c0_0 : Nat) (l0_0 : List ByteArray) (A0_1 : Option Addr) (c0_1 : Nat) (l0_1 : List (S166)) (A1 : Option Addr) (c1 : Nat) (l1 : List (S168)) (r1 : List ByteArray) (r2 : List (S166)) (w : World) (hr0_0 : Kd.C Kd.string w A0_0 l0_0.length l0_0) (hc0_0 : l0_0.length ≤ c0_0) (hr0_1 : Kd.C k166 w A0_1 l0_1.length l0_1) (hc0_1 : l0_1.length ≤ c0_1) (hr1 : Kd.C k168 w A1 l1.length l1) (hc1 : l1.length ≤ c1) (h : spec_Do.f k l0_0 l0_1 l1 = some (r1, r2)) :
  Calls Try.prog 72 #[.agg #[.slice A0_0 l0_0.length c0_0, .slice A0_1 l0_1.length c0_1], .slice A1 l1.length c1] w fun e w' => ∃ v0_ v1_ : Value, e = .returned (.agg #[v0_, v1_]) ∧ Kd.R Kd.string 9 w' w.heap.size (fun _ => True) v0_ r1 ∧ Kd.R k166 166 w' w.heap.size (fun _ => True) v1_ r2 ∧ Below w.heap.size w w' := by
 have hu95 := Try.underlying95
 have hu168 := Try.underlying168
 have hu166 := Try.underlying166
 have HR0_0 := q_ hr0_0
 have HC0_0 := q_ hc0_0
 clear hr0_0 hc0_0
 have HR0_1 := q_ hr0_1
 have HC0_1 := q_ hc0_1
 clear hr0_1 hc0_1
 have HR1 := q_ hr1
 have HC1 := q_ hc1
 clear hr1 hc1
 have HB := q_ (Below.refl w.heap.size w)
 have H : ((spec_l6Copy.f l0_0 l0_1).bind fun bt124 => (spec_Do.l0 k l1 0 bt124.1 bt124.2)) = some (r1, r2) := h
 clear h
 replace H := Option.bind_eq_some_iff.mp H
 obtain ⟨⟨t124, t127⟩, A30, H⟩ := H
 replace H : (spec_Do.l0 k l1 0 t124 t127) = some (r1, r2) := H
 have A3 := q_ A30
 clear A30
 have H' := q_ H
 clear H
 go_enter Try.func72, Try.ntmps72
 go_wp2_with (first | ((with_reducible refine gate_dst (N := 2) rfl ?_); (try (refine gate_guard (by rfl) ?_; dsimp only)); refine box_event ?hg (N := 2) ?hd (cs := #[.slice A0_0 l0_0.length c0_0, .slice A0_1 l0_1.length c0_1]) (t := 95) ?hr ?_; (case hd => rfl); (case hg => rfl); (case hr => exact z200_); intro gb122 hg w4 hbox hb; have BK122 := q_ (hbox); have GW122 := q_ ((z136_ : w.heap.size ≤ gb122)); have GE122 := q_ ((z136_ : w.heap.size ≤ gb122)); replace HB := q_ (below_step z0_ hb); clear hb hbox hg) | ((with_reducible refine gate_dst (N := 4) rfl ?_); (try (refine gate_guard (by rfl) ?_; dsimp only)); refine box_event ?hg (N := 4) ?hd (cs := #[.slice none 0 0, .slice none 0 0]) (t := 95) ?hr ?_; (case hd => rfl); (case hg => rfl); (case hr => exact z200_); intro gb123 hg w5 hbox hb; have BK123 := q_ (hbox); have GW123 := q_ ((by rw [hg]; exact (below_size z99_) : w.heap.size ≤ gb123)); have GE123 := q_ ((by rw [hg]; exact (below_size z99_) : w.heap.size ≤ gb123)); replace HB := q_ (below_step z99_ hb); have NB122_123 := q_ ((by rw [hg]; exact Nat.ne_of_lt (blk_lt (g := gb122) (o := .cells #[.slice A0_0 l0_0.length c0_0, .slice A0_1 l0_1.length c0_1] 95 (0, 0)) z111_) : gb122 ≠ gb123)); have NB123_122 := q_ ((by rw [hg]; exact Nat.ne_of_gt (blk_lt (g := gb122) (o := .cells #[.slice A0_0 l0_0.length c0_0, .slice A0_1 l0_1.length c0_1] 95 (0, 0)) z111_) : gb123 ≠ gb122)); replace BK122 := q_ (blk_below (g := gb122) (o := .cells #[.slice A0_0 l0_0.length c0_0, .slice A0_1 l0_1.length c0_1] 95 (0, 0)) z111_ hb); clear hb hbox hg; have hnb6 := NB122_123.out; have hnc6 := NB123_122.out; obtain ⟨hcz7_0, hcz7_1, hfz7_0, hfz7_1⟩ := cs2_ BK122.out) | ((with_reducible refine gate_callee (f := 145) rfl ?_); refine goesL_ (some 9) rfl rfl Try.func145 (by kernel_rfl) rfl #[.agg #[.slice A0_0 l0_0.length c0_0, .slice A0_1 l0_1.length c0_1]] rfl z1_ ?_; (with_reducible refine (spec_l6Copy.calls _ _ l0_0 _ _ l0_1 t124 t127 _ ?side1 ?side2 ?side3 ?side4 A3.out).mono ?_); (case side1 => exact z199_); (case side2 => exact z221_); (case side3 => exact z201_); (case side4 => exact z222_); rintro e w8 ⟨v125, v128, rfl, ho0, ho1, hb⟩; refine ⟨_, rfl, ?_⟩; have HO126 := q_ (Kd.R_lower ho0 (below_size z75_)); have HO129 := q_ (Kd.R_lower ho1 (below_size z75_)); replace BK123 := q_ (blk_below (g := gb123) (o := .cells #[.slice none 0 0, .slice none 0 0] 95 (0, 0)) z9_ hb); replace HB := q_ (below_step z75_ hb); (try clear hb); (try clear hb2); (try clear hk); (try clear hi); (try clear ho0); (try clear ho1)) | ((with_reducible refine gate_dst (N := 5) rfl ?_); (try (refine gate_guard (by rfl) ?_; dsimp only)); refine box_event ?hg (N := 5) ?hd (cs := #[.slice none 0 0, .slice none 0 0]) (t := 95) ?hr ?_; (case hd => rfl); (case hg => rfl); (case hr => exact z200_); intro gb130 hg w9 hbox hb; replace HO126 := q_ (Kd.R_below (by (with_reducible repeat (first | apply Kd.R_alloc | apply Kd.R_drewN | apply Kd.R_drew)); exact HO126.out) hb); replace HO129 := q_ (Kd.R_below (by (with_reducible repeat (first | apply Kd.R_alloc | apply Kd.R_drewN | apply Kd.R_drew)); exact HO129.out) hb); have BK130 := q_ (hbox); have GW130 := q_ ((by rw [hg]; exact (below_size z75_) : w.heap.size ≤ gb130)); have GE130 := q_ ((by rw [hg]; exact (below_size z75_) : w.heap.size ≤ gb130)); replace HB := q_ (below_step z75_ hb); have NB123_130 := q_ ((z140_ : gb123 ≠ gb130)); have NB130_123 := q_ ((z141_ : gb130 ≠ gb123)); replace BK123 := q_ (blk_below (g := gb123) (o := .cells #[.slice none 0 0, .slice none 0 0] 95 (0, 0)) z9_ hb); clear hb hbox hg; obtain ⟨Ao10, co10, eo10⟩ := Kd.R_slice HO126.out; subst eo10; have hnb11 := NB130_123.out; have hnc11 := NB123_130.out; obtain ⟨hcz12_0, hcz12_1, hfz12_0, hfz12_1⟩ := cs2_ BK130.out; obtain ⟨Ao13, co13, eo13⟩ := Kd.R_slice HO129.out; subst eo13))
 go_loopg [6] k (fun kq v6 w' => ∃ (x6_1 : Int) (x131000_1 : List ByteArray) (x131001_1 : List (S166)) (u131000 : Value) (u131001 : Value), v6 = .int .i64 x6_1 ∧ Aside0 (spec_Do.l0 kq l1 x6_1 x131000_1 x131001_1 = some (r1, r2)) ∧ Aside0 (kq ≤ k) ∧ Aside0 (Kd.R Kd.string 9 w' w.heap.size (fun _ => True) u131000 x131000_1) ∧ Aside0 (Kd.R k166 166 w' w.heap.size (fun _ => True) u131001 x131001_1) ∧ Aside0 (w'.heap[gb123]? = some (.cells #[(.slice none 0 0), (.slice none 0 0)] 95 (0, 0))) ∧ Aside0 (w'.heap[gb130]? = some (.cells #[u131000, u131001] 95 (0, 0))) ∧ Aside0 (Below w.heap.size w w'))
 case atStart => exact ⟨(0), (t124), (t127), (.slice Ao10 t124.length co10), (.slice Ao13 t127.length co13), z30_, H', ⟨Nat.le_refl _⟩, ⟨by (with_reducible repeat (first | apply Kd.R_alloc | apply Kd.R_drewN | apply Kd.R_drew)); exact Kd.R_mono (Kd.R_far (p := ⟨gb130, 1, none⟩) (Kd.R_far (p := ⟨gb130, 0, none⟩) (Kd.R_types HO126.out BK130.out (by decide)) (fun _ hk => hk.2) (.slice Ao10 t124.length co10)) (fun _ hk => hk.2) (.slice Ao13 t127.length co13)) (fun _ hk => trivial)⟩, ⟨by (with_reducible repeat (first | apply Kd.R_alloc | apply Kd.R_drewN | apply Kd.R_drew)); exact Kd.R_mono (Kd.R_far (p := ⟨gb130, 1, none⟩) (Kd.R_far (p := ⟨gb130, 0, none⟩) (Kd.R_types HO129.out BK130.out (by decide)) (fun _ hk => hk.2) (.slice Ao10 t124.length co10)) (fun _ hk => hk.2) (.slice Ao13 t127.length co13)) (fun _ hk => trivial)⟩, ⟨by (with_reducible repeat (first | refine blk_drewN ?_ _ | refine blk_drew ?_ | refine blk_alloc ?_ _)); refine blk_far ?_ NB123_130.out _; (with_reducible repeat (first | refine blk_drewN ?_ _ | refine blk_drew ?_ | refine blk_alloc ?_ _)); refine blk_far ?_ NB123_130.out _; (with_reducible repeat (first | refine blk_drewN ?_ _ | refine blk_drew ?_ | refine blk_alloc ?_ _)); exact BK123.out⟩, ⟨by (with_reducible repeat (first | refine blk_drewN ?_ _ | refine blk_drew ?_ | refine blk_alloc ?_ _)); refine blk_put (cs := #[.slice Ao10 t124.length co10, .slice none 0 0]) ?_ 1 _ rfl; (with_reducible repeat (first | refine blk_drewN ?_ _ | refine blk_drew ?_ | refine blk_alloc ?_ _)); refine blk_put (cs := #[.slice none 0 0, .slice none 0 0]) ?_ 0 _ rfl; (with_reducible repeat (first | refine blk_drewN ?_ _ | refine blk_drew ?_ | refine blk_alloc ?_ _)); exact BK130.out⟩, ⟨z12_⟩⟩
 case round =>
  clear H'
  try clear c1
  try clear p2
  try clear c6
  try clear c7
  try clear c11
  try clear hcz12_0
  try clear hcz12_1
  try clear hcz7_0
  try clear hcz7_1
  try clear hfz12_0
  try clear hfz12_1
  try clear hfz7_0
  try clear hfz7_1
  obtain ⟨x6_1, x131000_1, x131001_1, u131000, u131001, rfl, HA, HK1, HO_131000, HO_131001, BK123, BK130, HB⟩ := hrel
  cases gk with
  | zero => exact absurd HA.out (by simp [spec_Do.l0])
  | succ k1 =>
   have H := HA.out
   clear HA
   simp only [spec_Do.l0] at H
   by_cases c14 : x6_1 < (l1.length : Int)
   ·rw [if_pos c14] at H
    have c14b0 : decide (x6_1 < (l1.length : Int)) = true := decide_eq_true c14
    clear c14
    by_cases c15 : 0 ≤ x6_1
    ·rw [if_pos c15] at H
     have c15b0 : decide (0 ≤ x6_1) = true := decide_eq_true c15
     clear c15
     replace H := Option.bind_eq_some_iff.mp H
     obtain ⟨t133, A160, H⟩ := H
     replace H : (if t133 = true then (if 0 ≤ ((rd_T168 l1 x6_1).f0) then (if ((rd_T168 l1 x6_1).f0) < (x131000_1.length : Int) then ((some (x131000_1.set (((rd_T168 l1 x6_1).f0) : Int).toNat ((rd_T168 l1 x6_1).f1) : List ByteArray)).bind fun y134 => (if ((rd_T168 l1 x6_1).f0) = (-1) then (if (wrap64 ((-1) - ((rd_T168 l1 x6_1).f0))) < (x131001_1.length : Int) then (if 0 ≤ (wrap64 ((-1) - ((rd_T168 l1 x6_1).f0))) then (spec_Do.l0 k1 l1 (wrap64 (x6_1 + 1)) y134 (x131001_1.set ((wrap64 ((-1) - ((rd_T168 l1 x6_1).f0))) : Int).toNat (⟨(rd_T168 l1 x6_1).f2.f0, (rd_T168 l1 x6_1).f2.f1⟩ : S166))) else (none)) else (spec_Do.l0 k1 l1 (wrap64 (x6_1 + 1)) y134 x131001_1)) else (if ((rd_T168 l1 x6_1).f0) = (-2) then (if (wrap64 ((-1) - ((rd_T168 l1 x6_1).f0))) < (x131001_1.length : Int) then (if 0 ≤ (wrap64 ((-1) - ((rd_T168 l1 x6_1).f0))) then (spec_Do.l0 k1 l1 (wrap64 (x6_1 + 1)) y134 (x131001_1.set ((wrap64 ((-1) - ((rd_T168 l1 x6_1).f0))) : Int).toNat (⟨(rd_T168 l1 x6_1).f2.f0, (rd_T168 l1 x6_1).f2.f1⟩ : S166))) else (none)) else (spec_Do.l0 k1 l1 (wrap64 (x6_1 + 1)) y134 x131001_1)) else (spec_Do.l0 k1 l1 (wrap64 (x6_1 + 1)) y134 x131001_1)))) else (none)) else (none)) else (if ((rd_T168 l1 x6_1).f0) = (-1) then (if (wrap64 ((-1) - ((rd_T168 l1 x6_1).f0))) < (x131001_1.length : Int) then (if 0 ≤ (wrap64 ((-1) - ((rd_T168 l1 x6_1).f0))) then (spec_Do.l0 k1 l1 (wrap64 (x6_1 + 1)) x131000_1 (x131001_1.set ((wrap64 ((-1) - ((rd_T168 l1 x6_1).f0))) : Int).toNat (⟨(rd_T168 l1 x6_1).f2.f0, (rd_T168 l1 x6_1).f2.f1⟩ : S166))) else (none)) else (spec_Do.l0 k1 l1 (wrap64 (x6_1 + 1)) x131000_1 x131001_1)) else (if ((rd_T168 l1 x6_1).f0) = (-2) then (if (wrap64 ((-1) - ((rd_T168 l1 x6_1).f0))) < (x131001_1.length : Int) then (if 0 ≤ (wrap64 ((-1) - ((rd_T168 l1 x6_1).f0))) then (spec_Do.l0 k1 l1 (wrap64 (x6_1 + 1)) x131000_1 (x131001_1.set ((wrap64 ((-1) - ((rd_T168 l1 x6_1).f0))) : Int).toNat (⟨(rd_T168 l1 x6_1).f2.f0, (rd_T168 l1 x6_1).f2.f1⟩ : S166))) else (none)) else (spec_Do.l0 k1 l1 (wrap64 (x6_1 + 1)) x131000_1 x131001_1)) else (spec_Do.l0 k1 l1 (wrap64 (x6_1 + 1)) x131000_1 x131001_1)))) = some (r1, r2) := H
     have A16 := q_ A160
     clear A160
     by_cases c17 : t133 = true
     ·subst c17
      have H1 : (if 0 ≤ ((rd_T168 l1 x6_1).f0) then (if ((rd_T168 l1 x6_1).f0) < (x131000_1.length : Int) then ((some (x131000_1.set (((rd_T168 l1 x6_1).f0) : Int).toNat ((rd_T168 l1 x6_1).f1) : List ByteArray)).bind fun y134 => (if ((rd_T168 l1 x6_1).f0) = (-1) then (if (wrap64 ((-1) - ((rd_T168 l1 x6_1).f0))) < (x131001_1.length : Int) then (if 0 ≤ (wrap64 ((-1) - ((rd_T168 l1 x6_1).f0))) then (spec_Do.l0 k1 l1 (wrap64 (x6_1 + 1)) y134 (x131001_1.set ((wrap64 ((-1) - ((rd_T168 l1 x6_1).f0))) : Int).toNat (⟨(rd_T168 l1 x6_1).f2.f0, (rd_T168 l1 x6_1).f2.f1⟩ : S166))) else (none)) else (spec_Do.l0 k1 l1 (wrap64 (x6_1 + 1)) y134 x131001_1)) else (if ((rd_T168 l1 x6_1).f0) = (-2) then (if (wrap64 ((-1) - ((rd_T168 l1 x6_1).f0))) < (x131001_1.length : Int) then (if 0 ≤ (wrap64 ((-1) - ((rd_T168 l1 x6_1).f0))) then (spec_Do.l0 k1 l1 (wrap64 (x6_1 + 1)) y134 (x131001_1.set ((wrap64 ((-1) - ((rd_T168 l1 x6_1).f0))) : Int).toNat (⟨(rd_T168 l1 x6_1).f2.f0, (rd_T168 l1 x6_1).f2.f1⟩ : S166))) else (none)) else (spec_Do.l0 k1 l1 (wrap64 (x6_1 + 1)) y134 x131001_1)) else (spec_Do.l0 k1 l1 (wrap64 (x6_1 + 1)) y134 x131001_1)))) else (none)) else (none)) = some (r1, r2) := z110_
      clear H
      have H := H1
      clear H1
      by_cases c18 : 0 ≤ ((rd_T168 l1 x6_1).f0)
      ·rw [if_pos c18] at H
       have c18b0 : decide (0 ≤ ((rd_T168 l1 x6_1).f0)) = true := decide_eq_true c18
       clear c18
       by_cases c19 : ((rd_T168 l1 x6_1).f0) < (x131000_1.length : Int)
       ·rw [if_pos c19] at H
        have c19b0 : decide (((rd_T168 l1 x6_1).f0) < (x131000_1.length : Int)) = true := decide_eq_true c19
        clear c19
        obtain ⟨y134, hy_⟩ : ∃ y_ : List ByteArray, y_ = (x131000_1.set (((rd_T168 l1 x6_1).f0) : Int).toNat ((rd_T168 l1 x6_1).f1)) := ⟨_, rfl⟩
        replace H : (if ((rd_T168 l1 x6_1).f0) = (-1) then (if (wrap64 ((-1) - ((rd_T168 l1 x6_1).f0))) < (x131001_1.length : Int) then (if 0 ≤ (wrap64 ((-1) - ((rd_T168 l1 x6_1).f0))) then (spec_Do.l0 k1 l1 (wrap64 (x6_1 + 1)) y134 (x131001_1.set ((wrap64 ((-1) - ((rd_T168 l1 x6_1).f0))) : Int).toNat (⟨(rd_T168 l1 x6_1).f2.f0, (rd_T168 l1 x6_1).f2.f1⟩ : S166))) else (none)) else (spec_Do.l0 k1 l1 (wrap64 (x6_1 + 1)) y134 x131001_1)) else (if ((rd_T168 l1 x6_1).f0) = (-2) then (if (wrap64 ((-1) - ((rd_T168 l1 x6_1).f0))) < (x131001_1.length : Int) then (if 0 ≤ (wrap64 ((-1) - ((rd_T168 l1 x6_1).f0))) then (spec_Do.l0 k1 l1 (wrap64 (x6_1 + 1)) y134 (x131001_1.set ((wrap64 ((-1) - ((rd_T168 l1 x6_1).f0))) : Int).toNat (⟨(rd_T168 l1 x6_1).f2.f0, (rd_T168 l1 x6_1).f2.f1⟩ : S166))) else (none)) else (spec_Do.l0 k1 l1 (wrap64 (x6_1 + 1)) y134 x131001_1)) else (spec_Do.l0 k1 l1 (wrap64 (x6_1 + 1)) y134 x131001_1))) = some (r1, r2) := z7_
        have Ny134 := q_ hy_
        clear hy_
        by_cases c21 : ((rd_T168 l1 x6_1).f0) = (-1)
        ·rw [if_pos c21] at H
         have c21b0 : (((rd_T168 l1 x6_1).f0) == (-1)) = true := beq_iff_eq.mpr c21
         have c21b1 : (((rd_T168 l1 x6_1).f0) != (-1)) = false := bne_eq_false_iff_eq.mpr c21
         clear c21
         by_cases c22 : (wrap64 ((-1) - ((rd_T168 l1 x6_1).f0))) < (x131001_1.length : Int)
         ·rw [if_pos c22] at H
          have c22b0 : decide ((wrap64 ((-1) - ((rd_T168 l1 x6_1).f0))) < (x131001_1.length : Int)) = true := decide_eq_true c22
          clear c22
          obtain ⟨ji23, hji23⟩ : ∃ j_ : Int, (wrap64 ((-1) - ((rd_T168 l1 x6_1).f0))) = j_ := ⟨_, rfl⟩
          replace H : (if 0 ≤ (ji23) then (spec_Do.l0 k1 l1 (wrap64 (x6_1 + 1)) y134 (x131001_1.set ((ji23) : Int).toNat (⟨(rd_T168 l1 x6_1).f2.f0, (rd_T168 l1 x6_1).f2.f1⟩ : S166))) else (none)) = some (r1, r2) := by first | (rw [hji23] at H; exact H) | (simp only [hji23] at H ⊢; exact H)
          (try rw [hji23] at c22b0)
          (try rw [hji23] at A16)
          have hji23w : (IntKind.i64.wrap ((-1) - ((rd_T168 l1 x6_1).f0))) = ji23 := (i64_w _).trans hji23
          by_cases c24 : 0 ≤ (ji23)
          ·rw [if_pos c24] at H
           have c24b0 : decide (0 ≤ (ji23)) = true := decide_eq_true c24
           clear c24
           obtain ⟨y135, hy_⟩ : ∃ y_ : List (S166), y_ = (x131001_1.set ((ji23) : Int).toNat (⟨(rd_T168 l1 x6_1).f2.f0, (rd_T168 l1 x6_1).f2.f1⟩ : S166)) := ⟨_, rfl⟩
           replace H : (spec_Do.l0 k1 l1 (wrap64 (x6_1 + 1)) y134 y135) = some (r1, r2) := z7_
           have Ny135 := q_ hy_
           clear hy_
           have H' := q_ H
           clear H
           have p131 : 0 ≤ (x6_1 : Int) := of_decide_eq_true z2_
           have q131 : x6_1 < (l1.length : Int) := of_decide_eq_true z2_
           obtain ⟨ad131, e131, hx131_0, hx131_1, hx131_2, hx131_3⟩ := at_T168 HR1.out x6_1 p131 q131
           cases e131
           replace hx131_0 := up_ HB hx131_0
           replace hx131_1 := up_ HB hx131_1
           replace hx131_2 := up_ HB hx131_2
           replace hx131_3 := up_ HB hx131_3
           replace p131 := eq_true p131
           replace q131 := eq_true q131
           go_wp2_with (first | ((with_reducible refine gate_dst (N := 7) rfl ?_); (try (refine gate_guard (by rfl) ?_; dsimp only)); refine box_event ?hg (N := 7) ?hd (cs := #[.int .i64 0, .string (⟨#[]⟩ : ByteArray), .int .i64 0, .int .i64 0]) (t := 168) ?hr ?_; (case hd => rfl); (case hg => rfl); (case hr => exact z200_); intro gb132 hg w26 hbox hb; replace HO_131000 := q_ (Kd.R_below z35_ hb); replace HO_131001 := q_ (Kd.R_below z23_ hb); have BK132 := q_ (hbox); have GW132 := q_ ((z146_ : w.heap.size ≤ gb132)); have GE132 := q_ ((z146_ : w.heap.size ≤ gb132)); replace HB := q_ (below_step z12_ hb); have NB123_132 := q_ ((z140_ : gb123 ≠ gb132)); have NB132_123 := q_ ((z141_ : gb132 ≠ gb123)); replace BK123 := q_ (blk_below (g := gb123) (o := .cells #[.slice none 0 0, .slice none 0 0] 95 (0, 0)) z9_ hb); have NB130_132 := q_ ((z142_ : gb130 ≠ gb132)); have NB132_130 := q_ ((z143_ : gb132 ≠ gb130)); replace BK130 := q_ (blk_below (g := gb130) (o := .cells #[u131000, u131001] 95 (0, 0)) z13_ hb); clear hb hbox hg; have hnb27 := NB132_123.out; have hnc27 := NB123_132.out; have hnb28 := NB132_130.out; have hnc28 := NB130_132.out; obtain ⟨hcz29_0, hcz29_1, hcz29_2, hcz29_3, hfz29_0, hfz29_1, hfz29_2, hfz29_3⟩ := cs4_ BK132.out) | ((with_reducible refine gate_store (t := 168) (p := 7) rfl ?_); refine store_event (t := 168) (p := 7) (v := ?vo_w30) (w1 := ((((w26.setCell ⟨gb132, 0, none⟩ (.int .i64 ((rd_T168 l1 x6_1).f0))).setCell ⟨gb132, 1, none⟩ (.string ((rd_T168 l1 x6_1).f1))).setCell ⟨gb132, 2, none⟩ (.int .i64 ((rd_T168 l1 x6_1).f2.f0))).setCell ⟨gb132, 3, none⟩ (.int .i64 ((rd_T168 l1 x6_1).f2.f1)))) ?hg ?ho ?hn ?hr ?_; (case ho => rfl); (case hg => rfl); (case hn => rfl); (case hr => exact z200_); intro w30 hw; have n0_ : Aside0 (Kd.R Kd.string 9 w30 w.heap.size (fun _ => True) u131000 x131000_1) := ⟨(by rw [hw]; exact (by (with_reducible repeat (first | apply Kd.R_alloc | apply Kd.R_drewN | apply Kd.R_drew)); exact Kd.R_mono (Kd.R_far (p := ⟨gb132, 3, none⟩) (Kd.R_far (p := ⟨gb132, 2, none⟩) (Kd.R_far (p := ⟨gb132, 1, none⟩) (Kd.R_far (p := ⟨gb132, 0, none⟩) (Kd.R_types HO_131000.out BK132.out (by decide)) (fun _ hk => hk.2) (.int .i64 ((rd_T168 l1 x6_1).f0))) (fun _ hk => hk.2) (.string ((rd_T168 l1 x6_1).f1))) (fun _ hk => hk.2) (.int .i64 ((rd_T168 l1 x6_1).f2.f0))) (fun _ hk => hk.2) (.int .i64 ((rd_T168 l1 x6_1).f2.f1))) (fun _ hk => trivial)))⟩; have n1_ : Aside0 (Kd.R k166 166 w30 w.heap.size (fun _ => True) u131001 x131001_1) := ⟨(by rw [hw]; exact (by (with_reducible repeat (first | apply Kd.R_alloc | apply Kd.R_drewN | apply Kd.R_drew)); exact Kd.R_mono (Kd.R_far (p := ⟨gb132, 3, none⟩) (Kd.R_far (p := ⟨gb132, 2, none⟩) (Kd.R_far (p := ⟨gb132, 1, none⟩) (Kd.R_far (p := ⟨gb132, 0, none⟩) (Kd.R_types HO_131001.out BK132.out (by decide)) (fun _ hk => hk.2) (.int .i64 ((rd_T168 l1 x6_1).f0))) (fun _ hk => hk.2) (.string ((rd_T168 l1 x6_1).f1))) (fun _ hk => hk.2) (.int .i64 ((rd_T168 l1 x6_1).f2.f0))) (fun _ hk => hk.2) (.int .i64 ((rd_T168 l1 x6_1).f2.f1))) (fun _ hk => trivial)))⟩; have n2_ : Aside0 (w30.heap[gb123]? = some (.cells #[.slice none 0 0, .slice none 0 0] 95 (0, 0))) := ⟨z194_⟩; have n3_ : Aside0 (w30.heap[gb130]? = some (.cells #[u131000, u131001] 95 (0, 0))) := ⟨z195_⟩; have n4_ : Aside0 (w30.heap[gb132]? = some (.cells #[.int .i64 ((rd_T168 l1 x6_1).f0), .string ((rd_T168 l1 x6_1).f1), .int .i64 ((rd_T168 l1 x6_1).f2.f0), .int .i64 ((rd_T168 l1 x6_1).f2.f1)] 168 (0, 0))) := ⟨z197_⟩; have n5_ : Aside0 (Below w.heap.size w w30) := ⟨z196_⟩; clear hw; clear HO_131000; clear HO_131001; clear BK123; clear BK130; clear BK132; clear HB; have HO_131000 := n0_; have HO_131001 := n1_; have BK123 := n2_; have BK130 := n3_; have BK132 := n4_; have HB := n5_; clear n0_ n1_ n2_ n3_ n4_ n5_; obtain ⟨hcz31_0, hcz31_1, hcz31_2, hcz31_3, hfz31_0, hfz31_1, hfz31_2, hfz31_3⟩ := cs4_ BK132.out; have hnb32 := NB130_123.out; have hnc32 := NB123_130.out; obtain ⟨hcz33_0, hcz33_1, hfz33_0, hfz33_1⟩ := cs2_ BK130.out; obtain ⟨Ao34, co34, eo34⟩ := Kd.R_slice HO_131000.out; subst eo34) | ((with_reducible refine gate_callee (f := 106) rfl ?_); refine goesL_ (some 26) rfl rfl Try.func106 (by kernel_rfl) rfl #[.int .i64 ((rd_T168 l1 x6_1).f0), .int .i64 0, .int .i64 (wrap64 ((x131000_1.length : Int) - 1))] rfl z1_ ?_; (with_reducible refine (spec_l1In.calls ((rd_T168 l1 x6_1).f0) 0 (wrap64 ((x131000_1.length : Int) - 1)) true _ A16.out).mono ?_); rintro e w' ⟨rfl, ⟨nd, rfl⟩⟩; refine ⟨_, rfl, ?_⟩; (try (rw [drewN_self w30]; generalize hq_ : World.drewN w30 _ = w30; have n0_ : Aside0 (Kd.R Kd.string 9 w30 w.heap.size (fun _ => True) (.slice Ao34 x131000_1.length co34) x131000_1) := ⟨z188_⟩; have n1_ : Aside0 (Kd.R k166 166 w30 w.heap.size (fun _ => True) u131001 x131001_1) := ⟨z189_⟩; have n2_ : Aside0 (w30.heap[gb123]? = some (.cells #[.slice none 0 0, .slice none 0 0] 95 (0, 0))) := ⟨z193_⟩; have n3_ : Aside0 (w30.heap[gb130]? = some (.cells #[.slice Ao34 x131000_1.length co34, u131001] 95 (0, 0))) := ⟨z190_⟩; have n4_ : Aside0 (w30.heap[gb132]? = some (.cells #[.int .i64 ((rd_T168 l1 x6_1).f0), .string ((rd_T168 l1 x6_1).f1), .int .i64 ((rd_T168 l1 x6_1).f2.f0), .int .i64 ((rd_T168 l1 x6_1).f2.f1)] 168 (0, 0))) := ⟨z191_⟩; have n5_ : Aside0 (Below w.heap.size w w30) := ⟨z192_⟩; clear HO_131000 HO_131001 BK123 BK130 BK132 HB hq_; have HO_131000 := n0_; have HO_131001 := n1_; have BK123 := n2_; have BK130 := n3_; have BK132 := n4_; have HB := n5_; clear n0_ n1_ n2_ n3_ n4_ n5_)); obtain ⟨hcq123_0, hcq123_1, hfq123_0, hfq123_1⟩ := cs2_ BK123.out; obtain ⟨hcq130_0, hcq130_1, hfq130_0, hfq130_1⟩ := cs2_ BK130.out; obtain ⟨hcq132_0, hcq132_1, hcq132_2, hcq132_3, hfq132_0, hfq132_1, hfq132_2, hfq132_3⟩ := cs4_ BK132.out; have p20 : 0 ≤ (((rd_T168 l1 x6_1).f0) : Int) := of_decide_eq_true z2_; have q20 : (((rd_T168 l1 x6_1).f0) : Int) < ((x131000_1.length : Int) : Int) := of_decide_eq_true z2_; obtain ⟨go20, co20, eo20, gb20, gl20, cl20, HG20⟩ := Kd.R_form HO_131000.out (by omega); (first | cases eo20 | (injection eo20 with ea_ en_ ec_; (first | subst ea_ | (injection ea_ with ea_; subst ea_)); subst ec_; clear en_)); have GB20 := q_ gb20; have GG20 := q_ HG20; clear gb20 gl20 HG20; obtain ⟨hx20_0, hf20_0⟩ := Kd.R_celln (⟨#[]⟩ : ByteArray) HO_131000.out (((rd_T168 l1 x6_1).f0) : Int) p20 q20; replace p20 := eq_true p20; replace q20 := eq_true q20; obtain ⟨hy35_, hz35_⟩ := Kd.R_celln (⟨#[]⟩ : ByteArray) HO_131000.out (((rd_T168 l1 x6_1).f0) : Int) (of_decide_eq_true z2_) (of_decide_eq_true z2_); have HP35 := Kd.R_putg HO_131000.out (((rd_T168 l1 x6_1).f0) : Int) ((rd_T168 l1 x6_1).f1)) | ((with_reducible refine gate_store (t := 9) (p := 33) rfl ?_); refine store_event (t := 9) (p := 33) (v := ?vo_w36) (w1 := (w30.setCell ⟨go20, (((rd_T168 l1 x6_1).f0) : Int).toNat, none⟩ (.string ((rd_T168 l1 x6_1).f1)))) ?hg ?ho ?hn ?hr ?_; (case ho => rfl); (case hg => rfl); (case hn => rfl); (case hr => exact z200_); intro w36 hw; have hg : w30.grownBy w36 (some go20) := (by rw [hw]; exact HP35.2); have hp_ : Kd.R Kd.string 9 w36 w.heap.size (fun _ => True) (.slice (some ⟨go20, 0, none⟩) x131000_1.length co34) y134 := (by rw [hw, Ny134.out]; exact HP35.1); clear HP35; replace HO_131001 := q_ (Kd.R_over' (v := (.slice (some ⟨go20, 0, none⟩) x131000_1.length co34)) z23_ (Kd.R_typed HO_131000.out) (by decide) hg); replace BK123 := q_ (blk_grown (g := gb123) (o := .cells #[.slice none 0 0, .slice none 0 0] 95 (0, 0)) z9_ hg (Kd.R_ne HO_131000.out BK123.out (by decide))); replace BK130 := q_ (blk_grown (g := gb130) (o := .cells #[.slice (some ⟨go20, 0, none⟩) x131000_1.length co34, u131001] 95 (0, 0)) z13_ hg (Kd.R_ne HO_131000.out BK130.out (by decide))); replace BK132 := q_ (blk_grown (g := gb132) (o := .cells #[.int .i64 ((rd_T168 l1 x6_1).f0), .string ((rd_T168 l1 x6_1).f1), .int .i64 ((rd_T168 l1 x6_1).f2.f0), .int .i64 ((rd_T168 l1 x6_1).f2.f1)] 168 (0, 0)) z48_ hg (Kd.R_ne HO_131000.out BK132.out (by decide))); replace HO_131000 := q_ (hp_); replace HB := q_ ((z129_ : Below w.heap.size w w36)); clear hg hw hp_; obtain ⟨hcz37_0, hcz37_1, hcz37_2, hcz37_3, hfz37_0, hfz37_1, hfz37_2, hfz37_3⟩ := cs4_ BK132.out; obtain ⟨hcz38_0, hcz38_1, hfz38_0, hfz38_1⟩ := cs2_ BK130.out; obtain ⟨Ao39, co39, eo39⟩ := Kd.R_slice HO_131001.out; subst eo39; have p25 : 0 ≤ ((ji23) : Int) := of_decide_eq_true z2_; have q25 : ((ji23) : Int) < ((x131001_1.length : Int) : Int) := of_decide_eq_true z2_; obtain ⟨go25, co25, eo25, gb25, gl25, cl25, HG25⟩ := Kd.R_form HO_131001.out (by omega); (first | cases eo25 | (injection eo25 with ea_ en_ ec_; (first | subst ea_ | (injection ea_ with ea_; subst ea_)); subst ec_; clear en_)); have GB25 := q_ gb25; have GG25 := q_ HG25; clear gb25 gl25 HG25; obtain ⟨ce25, hcl25, hM25, hcc25, hfr25⟩ := Kd.R_elem HO_131001.out z166 ((ji23) : Int) p25 q25; obtain rfl := k166_openM hM25; have hx25_0 : w36.cell? ⟨go25, ((ji23) : Int).toNat * 2, none⟩ = some (.int .i64 ((rd_T166 x131001_1 (ji23)).f0)) := hcc25 0 _ rfl; have hx25_1 : w36.cell? ⟨go25, ((ji23) : Int).toNat * 2 + 1, none⟩ = some (.int .i64 ((rd_T166 x131001_1 (ji23)).f1)) := hcc25 1 _ rfl; have hf25_0 : w36.frozen? ⟨go25, ((ji23) : Int).toNat * 2, none⟩ = false := hfr25 0; have hf25_1 : w36.frozen? ⟨go25, ((ji23) : Int).toNat * 2 + 1, none⟩ = false := hfr25 1; clear hcl25 hcc25 hfr25 hM25; replace p25 := eq_true p25; replace q25 := eq_true q25; have HX40 := q_ (show Kd.R k166 166 w36 w.heap.size (fun _ => True) (.slice (some ⟨go25, 0, none⟩) x131001_1.length co39) x131001_1 from z23_); obtain ⟨ce40, hcl40, hM40, hcc40, hfr40⟩ := Kd.R_elem HX40.out z166 ((ji23) : Int) (of_decide_eq_true z2_) z159_; obtain rfl := k166_openM hM40; have HP40 := Kd.R_seg HX40.out ((ji23) : Int) (of_decide_eq_true z2_) z159_ (seg := [.int .i64 ((rd_T168 l1 x6_1).f2.f0), .int .i64 ((rd_T168 l1 x6_1).f2.f1)]) (j := 0) hcl40 hcc40 (show 2 ≤ 2 from by decide) (x' := (⟨(rd_T168 l1 x6_1).f2.f0, (rd_T168 l1 x6_1).f2.f1⟩ : S166)) (k166_mkM _ _ _ (⟨(rd_T168 l1 x6_1).f2.f0, (rd_T168 l1 x6_1).f2.f1⟩ : S166) ) (fun _ hk => hk); have hx40_0 := hcc40 0 _ rfl; (try simp only [show (k166).sz = 2 from rfl, Nat.mul_one, Nat.add_zero] at hx40_0); have hf40_0 := hfr40 0; (try simp only [show (k166).sz = 2 from rfl, Nat.mul_one, Nat.add_zero] at hf40_0); have hx40_1 := hcc40 1 _ rfl; (try simp only [show (k166).sz = 2 from rfl, Nat.mul_one, Nat.add_zero] at hx40_1); have hf40_1 := hfr40 1; (try simp only [show (k166).sz = 2 from rfl, Nat.mul_one, Nat.add_zero] at hf40_1); clear hcl40 hcc40 hfr40 hM40) | ((with_reducible refine gate_store (t := 166) (p := 58) rfl ?_); refine store_event (t := 166) (p := 58) (v := ?vo_w41) (w1 := ((w36.setCell ⟨go25, ((ji23) : Int).toNat * 2, none⟩ (.int .i64 ((rd_T168 l1 x6_1).f2.f0))).setCell ⟨go25, ((ji23) : Int).toNat * 2 + 1, none⟩ (.int .i64 ((rd_T168 l1 x6_1).f2.f1)))) ?hg ?ho ?hn ?hr ?_; (case ho => rfl); (case hg => rfl); (case hn => rfl); (case hr => exact z200_); intro w41 hw; have hg : w36.grownBy w41 (some go25) := (by rw [hw]; exact HP40.2); have hp_ : Kd.R k166 166 w41 w.heap.size (fun _ => True) (.slice (some ⟨go25, 0, none⟩) x131001_1.length co39) y135 := (by rw [hw, Ny135.out]; exact HP40.1); clear HP40; replace HO_131000 := q_ (Kd.R_over' (v := (.slice (some ⟨go25, 0, none⟩) x131001_1.length co39)) z35_ (Kd.R_typed HO_131001.out) (by decide) hg); replace BK123 := q_ (blk_grown (g := gb123) (o := .cells #[.slice none 0 0, .slice none 0 0] 95 (0, 0)) z9_ hg (Kd.R_ne HO_131001.out BK123.out (by decide))); replace BK130 := q_ (blk_grown (g := gb130) (o := .cells #[.slice (some ⟨go20, 0, none⟩) x131000_1.length co34, .slice (some ⟨go25, 0, none⟩) x131001_1.length co39] 95 (0, 0)) z13_ hg (Kd.R_ne HO_131001.out BK130.out (by decide))); replace BK132 := q_ (blk_grown (g := gb132) (o := .cells #[.int .i64 ((rd_T168 l1 x6_1).f0), .string ((rd_T168 l1 x6_1).f1), .int .i64 ((rd_T168 l1 x6_1).f2.f0), .int .i64 ((rd_T168 l1 x6_1).f2.f1)] 168 (0, 0)) z48_ hg (Kd.R_ne HO_131001.out BK132.out (by decide))); replace HO_131001 := q_ (hp_); replace HB := q_ ((by rw [hw]; exact below_set (below_set (HB.out) GB25.out) GB25.out : Below w.heap.size w w41)); clear hg hw hp_))
           go_roundg k1
           case measure => have := HK1.out; omega
           case rel => exact ⟨(wrap64 (x6_1 + 1)), (y134), (y135), (.slice (some ⟨go20, 0, none⟩) x131000_1.length co34), (.slice (some ⟨go25, 0, none⟩) x131001_1.length co39), z30_, H', ⟨z89_⟩, ⟨z35_⟩, ⟨z23_⟩, ⟨z9_⟩, ⟨z13_⟩, ⟨z17_⟩⟩
          ·rw [if_neg c24] at H
           exact absurd H (by simp)
         ·rw [if_neg c22] at H
          have c22b0 : decide ((wrap64 ((-1) - ((rd_T168 l1 x6_1).f0))) < (x131001_1.length : Int)) = false := decide_eq_false c22
          clear c22
          have H' := q_ H
          clear H
          have p131 : 0 ≤ (x6_1 : Int) := of_decide_eq_true z2_
          have q131 : x6_1 < (l1.length : Int) := of_decide_eq_true z2_
          obtain ⟨ad131, e131, hx131_0, hx131_1, hx131_2, hx131_3⟩ := at_T168 HR1.out x6_1 p131 q131
          cases e131
          replace hx131_0 := up_ HB hx131_0
          replace hx131_1 := up_ HB hx131_1
          replace hx131_2 := up_ HB hx131_2
          replace hx131_3 := up_ HB hx131_3
          replace p131 := eq_true p131
          replace q131 := eq_true q131
          go_wp2_with (first | ((with_reducible refine gate_dst (N := 7) rfl ?_); (try (refine gate_guard (by rfl) ?_; dsimp only)); refine box_event ?hg (N := 7) ?hd (cs := #[.int .i64 0, .string (⟨#[]⟩ : ByteArray), .int .i64 0, .int .i64 0]) (t := 168) ?hr ?_; (case hd => rfl); (case hg => rfl); (case hr => exact z200_); intro gb132 hg w42 hbox hb; replace HO_131000 := q_ (Kd.R_below z35_ hb); replace HO_131001 := q_ (Kd.R_below z23_ hb); have BK132 := q_ (hbox); have GW132 := q_ ((z146_ : w.heap.size ≤ gb132)); have GE132 := q_ ((z146_ : w.heap.size ≤ gb132)); replace HB := q_ (below_step z12_ hb); have NB123_132 := q_ ((z140_ : gb123 ≠ gb132)); have NB132_123 := q_ ((z141_ : gb132 ≠ gb123)); replace BK123 := q_ (blk_below (g := gb123) (o := .cells #[.slice none 0 0, .slice none 0 0] 95 (0, 0)) z9_ hb); have NB130_132 := q_ ((z142_ : gb130 ≠ gb132)); have NB132_130 := q_ ((z143_ : gb132 ≠ gb130)); replace BK130 := q_ (blk_below (g := gb130) (o := .cells #[u131000, u131001] 95 (0, 0)) z13_ hb); clear hb hbox hg; have hnb43 := NB132_123.out; have hnc43 := NB123_132.out; have hnb44 := NB132_130.out; have hnc44 := NB130_132.out; obtain ⟨hcz45_0, hcz45_1, hcz45_2, hcz45_3, hfz45_0, hfz45_1, hfz45_2, hfz45_3⟩ := cs4_ BK132.out) | ((with_reducible refine gate_store (t := 168) (p := 7) rfl ?_); refine store_event (t := 168) (p := 7) (v := ?vo_w46) (w1 := ((((w42.setCell ⟨gb132, 0, none⟩ (.int .i64 ((rd_T168 l1 x6_1).f0))).setCell ⟨gb132, 1, none⟩ (.string ((rd_T168 l1 x6_1).f1))).setCell ⟨gb132, 2, none⟩ (.int .i64 ((rd_T168 l1 x6_1).f2.f0))).setCell ⟨gb132, 3, none⟩ (.int .i64 ((rd_T168 l1 x6_1).f2.f1)))) ?hg ?ho ?hn ?hr ?_; (case ho => rfl); (case hg => rfl); (case hn => rfl); (case hr => exact z200_); intro w46 hw; have n0_ : Aside0 (Kd.R Kd.string 9 w46 w.heap.size (fun _ => True) u131000 x131000_1) := ⟨(by rw [hw]; exact (by (with_reducible repeat (first | apply Kd.R_alloc | apply Kd.R_drewN | apply Kd.R_drew)); exact Kd.R_mono (Kd.R_far (p := ⟨gb132, 3, none⟩) (Kd.R_far (p := ⟨gb132, 2, none⟩) (Kd.R_far (p := ⟨gb132, 1, none⟩) (Kd.R_far (p := ⟨gb132, 0, none⟩) (Kd.R_types HO_131000.out BK132.out (by decide)) (fun _ hk => hk.2) (.int .i64 ((rd_T168 l1 x6_1).f0))) (fun _ hk => hk.2) (.string ((rd_T168 l1 x6_1).f1))) (fun _ hk => hk.2) (.int .i64 ((rd_T168 l1 x6_1).f2.f0))) (fun _ hk => hk.2) (.int .i64 ((rd_T168 l1 x6_1).f2.f1))) (fun _ hk => trivial)))⟩; have n1_ : Aside0 (Kd.R k166 166 w46 w.heap.size (fun _ => True) u131001 x131001_1) := ⟨(by rw [hw]; exact (by (with_reducible repeat (first | apply Kd.R_alloc | apply Kd.R_drewN | apply Kd.R_drew)); exact Kd.R_mono (Kd.R_far (p := ⟨gb132, 3, none⟩) (Kd.R_far (p := ⟨gb132, 2, none⟩) (Kd.R_far (p := ⟨gb132, 1, none⟩) (Kd.R_far (p := ⟨gb132, 0, none⟩) (Kd.R_types HO_131001.out BK132.out (by decide)) (fun _ hk => hk.2) (.int .i64 ((rd_T168 l1 x6_1).f0))) (fun _ hk => hk.2) (.string ((rd_T168 l1 x6_1).f1))) (fun _ hk => hk.2) (.int .i64 ((rd_T168 l1 x6_1).f2.f0))) (fun _ hk => hk.2) (.int .i64 ((rd_T168 l1 x6_1).f2.f1))) (fun _ hk => trivial)))⟩; have n2_ : Aside0 (w46.heap[gb123]? = some (.cells #[.slice none 0 0, .slice none 0 0] 95 (0, 0))) := ⟨z194_⟩; have n3_ : Aside0 (w46.heap[gb130]? = some (.cells #[u131000, u131001] 95 (0, 0))) := ⟨z195_⟩; have n4_ : Aside0 (w46.heap[gb132]? = some (.cells #[.int .i64 ((rd_T168 l1 x6_1).f0), .string ((rd_T168 l1 x6_1).f1), .int .i64 ((rd_T168 l1 x6_1).f2.f0), .int .i64 ((rd_T168 l1 x6_1).f2.f1)] 168 (0, 0))) := ⟨z197_⟩; have n5_ : Aside0 (Below w.heap.size w w46) := ⟨z196_⟩; clear hw; clear HO_131000; clear HO_131001; clear BK123; clear BK130; clear BK132; clear HB; have HO_131000 := n0_; have HO_131001 := n1_; have BK123 := n2_; have BK130 := n3_; have BK132 := n4_; have HB := n5_; clear n0_ n1_ n2_ n3_ n4_ n5_; obtain ⟨hcz47_0, hcz47_1, hcz47_2, hcz47_3, hfz47_0, hfz47_1, hfz47_2, hfz47_3⟩ := cs4_ BK132.out; have hnb48 := NB130_123.out; have hnc48 := NB123_130.out; obtain ⟨hcz49_0, hcz49_1, hfz49_0, hfz49_1⟩ := cs2_ BK130.out; obtain ⟨Ao50, co50, eo50⟩ := Kd.R_slice HO_131000.out; subst eo50) | ((with_reducible refine gate_callee (f := 106) rfl ?_); refine goesL_ (some 26) rfl rfl Try.func106 (by kernel_rfl) rfl #[.int .i64 ((rd_T168 l1 x6_1).f0), .int .i64 0, .int .i64 (wrap64 ((x131000_1.length : Int) - 1))] rfl z1_ ?_; (with_reducible refine (spec_l1In.calls ((rd_T168 l1 x6_1).f0) 0 (wrap64 ((x131000_1.length : Int) - 1)) true _ A16.out).mono ?_); rintro e w' ⟨rfl, ⟨nd, rfl⟩⟩; refine ⟨_, rfl, ?_⟩; (try (rw [drewN_self w46]; generalize hq_ : World.drewN w46 _ = w46; have n0_ : Aside0 (Kd.R Kd.string 9 w46 w.heap.size (fun _ => True) (.slice Ao50 x131000_1.length co50) x131000_1) := ⟨z188_⟩; have n1_ : Aside0 (Kd.R k166 166 w46 w.heap.size (fun _ => True) u131001 x131001_1) := ⟨z189_⟩; have n2_ : Aside0 (w46.heap[gb123]? = some (.cells #[.slice none 0 0, .slice none 0 0] 95 (0, 0))) := ⟨z193_⟩; have n3_ : Aside0 (w46.heap[gb130]? = some (.cells #[.slice Ao50 x131000_1.length co50, u131001] 95 (0, 0))) := ⟨z190_⟩; have n4_ : Aside0 (w46.heap[gb132]? = some (.cells #[.int .i64 ((rd_T168 l1 x6_1).f0), .string ((rd_T168 l1 x6_1).f1), .int .i64 ((rd_T168 l1 x6_1).f2.f0), .int .i64 ((rd_T168 l1 x6_1).f2.f1)] 168 (0, 0))) := ⟨z191_⟩; have n5_ : Aside0 (Below w.heap.size w w46) := ⟨z192_⟩; clear HO_131000 HO_131001 BK123 BK130 BK132 HB hq_; have HO_131000 := n0_; have HO_131001 := n1_; have BK123 := n2_; have BK130 := n3_; have BK132 := n4_; have HB := n5_; clear n0_ n1_ n2_ n3_ n4_ n5_)); obtain ⟨hcq123_0, hcq123_1, hfq123_0, hfq123_1⟩ := cs2_ BK123.out; obtain ⟨hcq130_0, hcq130_1, hfq130_0, hfq130_1⟩ := cs2_ BK130.out; obtain ⟨hcq132_0, hcq132_1, hcq132_2, hcq132_3, hfq132_0, hfq132_1, hfq132_2, hfq132_3⟩ := cs4_ BK132.out; have p20 : 0 ≤ (((rd_T168 l1 x6_1).f0) : Int) := of_decide_eq_true z2_; have q20 : (((rd_T168 l1 x6_1).f0) : Int) < ((x131000_1.length : Int) : Int) := of_decide_eq_true z2_; obtain ⟨go20, co20, eo20, gb20, gl20, cl20, HG20⟩ := Kd.R_form HO_131000.out (by omega); (first | cases eo20 | (injection eo20 with ea_ en_ ec_; (first | subst ea_ | (injection ea_ with ea_; subst ea_)); subst ec_; clear en_)); have GB20 := q_ gb20; have GG20 := q_ HG20; clear gb20 gl20 HG20; obtain ⟨hx20_0, hf20_0⟩ := Kd.R_celln (⟨#[]⟩ : ByteArray) HO_131000.out (((rd_T168 l1 x6_1).f0) : Int) p20 q20; replace p20 := eq_true p20; replace q20 := eq_true q20; obtain ⟨hy51_, hz51_⟩ := Kd.R_celln (⟨#[]⟩ : ByteArray) HO_131000.out (((rd_T168 l1 x6_1).f0) : Int) (of_decide_eq_true z2_) (of_decide_eq_true z2_); have HP51 := Kd.R_putg HO_131000.out (((rd_T168 l1 x6_1).f0) : Int) ((rd_T168 l1 x6_1).f1)) | ((with_reducible refine gate_store (t := 9) (p := 33) rfl ?_); refine store_event (t := 9) (p := 33) (v := ?vo_w52) (w1 := (w46.setCell ⟨go20, (((rd_T168 l1 x6_1).f0) : Int).toNat, none⟩ (.string ((rd_T168 l1 x6_1).f1)))) ?hg ?ho ?hn ?hr ?_; (case ho => rfl); (case hg => rfl); (case hn => rfl); (case hr => exact z200_); intro w52 hw; have hg : w46.grownBy w52 (some go20) := (by rw [hw]; exact HP51.2); have hp_ : Kd.R Kd.string 9 w52 w.heap.size (fun _ => True) (.slice (some ⟨go20, 0, none⟩) x131000_1.length co50) y134 := (by rw [hw, Ny134.out]; exact HP51.1); clear HP51; replace HO_131001 := q_ (Kd.R_over' (v := (.slice (some ⟨go20, 0, none⟩) x131000_1.length co50)) z23_ (Kd.R_typed HO_131000.out) (by decide) hg); replace BK123 := q_ (blk_grown (g := gb123) (o := .cells #[.slice none 0 0, .slice none 0 0] 95 (0, 0)) z9_ hg (Kd.R_ne HO_131000.out BK123.out (by decide))); replace BK130 := q_ (blk_grown (g := gb130) (o := .cells #[.slice (some ⟨go20, 0, none⟩) x131000_1.length co50, u131001] 95 (0, 0)) z13_ hg (Kd.R_ne HO_131000.out BK130.out (by decide))); replace BK132 := q_ (blk_grown (g := gb132) (o := .cells #[.int .i64 ((rd_T168 l1 x6_1).f0), .string ((rd_T168 l1 x6_1).f1), .int .i64 ((rd_T168 l1 x6_1).f2.f0), .int .i64 ((rd_T168 l1 x6_1).f2.f1)] 168 (0, 0)) z48_ hg (Kd.R_ne HO_131000.out BK132.out (by decide))); replace HO_131000 := q_ (hp_); replace HB := q_ ((z129_ : Below w.heap.size w w52)); clear hg hw hp_; obtain ⟨hcz53_0, hcz53_1, hcz53_2, hcz53_3, hfz53_0, hfz53_1, hfz53_2, hfz53_3⟩ := cs4_ BK132.out; obtain ⟨hcz54_0, hcz54_1, hfz54_0, hfz54_1⟩ := cs2_ BK130.out; obtain ⟨Ao55, co55, eo55⟩ := Kd.R_slice HO_131001.out; subst eo55))
          go_roundg k1
          case measure => have := HK1.out; omega
          case rel => exact ⟨(wrap64 (x6_1 + 1)), (y134), (x131001_1), (.slice (some ⟨go20, 0, none⟩) x131000_1.length co50), (.slice Ao55 x131001_1.length co55), z30_, H', ⟨z89_⟩, ⟨z35_⟩, ⟨z23_⟩, ⟨z9_⟩, ⟨z13_⟩, ⟨z17_⟩⟩
        ·rw [if_neg c21] at H
         have c21b0 : (((rd_T168 l1 x6_1).f0) == (-1)) = false := beq_eq_false_iff_ne.mpr c21
         have c21b1 : (((rd_T168 l1 x6_1).f0) != (-1)) = true := bne_iff_ne.mpr c21
         by_cases c56 : ((rd_T168 l1 x6_1).f0) = (-2)
         ·rw [if_pos c56] at H
          have c56b0 : (((rd_T168 l1 x6_1).f0) == (-2)) = true := beq_iff_eq.mpr c56
          have c56b1 : (((rd_T168 l1 x6_1).f0) != (-2)) = false := bne_eq_false_iff_eq.mpr c56
          clear c56
          by_cases c57 : (wrap64 ((-1) - ((rd_T168 l1 x6_1).f0))) < (x131001_1.length : Int)
          ·rw [if_pos c57] at H
           have c57b0 : decide ((wrap64 ((-1) - ((rd_T168 l1 x6_1).f0))) < (x131001_1.length : Int)) = true := decide_eq_true c57
           clear c57
           obtain ⟨ji58, hji58⟩ : ∃ j_ : Int, (wrap64 ((-1) - ((rd_T168 l1 x6_1).f0))) = j_ := ⟨_, rfl⟩
           replace H : (if 0 ≤ (ji58) then (spec_Do.l0 k1 l1 (wrap64 (x6_1 + 1)) y134 (x131001_1.set ((ji58) : Int).toNat (⟨(rd_T168 l1 x6_1).f2.f0, (rd_T168 l1 x6_1).f2.f1⟩ : S166))) else (none)) = some (r1, r2) := by first | (rw [hji58] at H; exact H) | (simp only [hji58] at H ⊢; exact H)
           (try rw [hji58] at c57b0)
           (try rw [hji58] at hji23)
           (try rw [hji58] at hji23w)
           (try rw [hji58] at A16)
           have hji58w : (IntKind.i64.wrap ((-1) - ((rd_T168 l1 x6_1).f0))) = ji58 := (i64_w _).trans hji58
           by_cases c59 : 0 ≤ (ji58)
           ·rw [if_pos c59] at H
            have c59b0 : decide (0 ≤ (ji58)) = true := decide_eq_true c59
            clear c59
            obtain ⟨y136, hy_⟩ : ∃ y_ : List (S166), y_ = (x131001_1.set ((ji58) : Int).toNat (⟨(rd_T168 l1 x6_1).f2.f0, (rd_T168 l1 x6_1).f2.f1⟩ : S166)) := ⟨_, rfl⟩
            replace H : (spec_Do.l0 k1 l1 (wrap64 (x6_1 + 1)) y134 y136) = some (r1, r2) := z7_
            have Ny136 := q_ hy_
            clear hy_
            have H' := q_ H
            clear H
            have p131 : 0 ≤ (x6_1 : Int) := of_decide_eq_true z2_
            have q131 : x6_1 < (l1.length : Int) := of_decide_eq_true z2_
            obtain ⟨ad131, e131, hx131_0, hx131_1, hx131_2, hx131_3⟩ := at_T168 HR1.out x6_1 p131 q131
            cases e131
            replace hx131_0 := up_ HB hx131_0
            replace hx131_1 := up_ HB hx131_1
            replace hx131_2 := up_ HB hx131_2
            replace hx131_3 := up_ HB hx131_3
            replace p131 := eq_true p131
            replace q131 := eq_true q131
            go_wp2_with (first | ((with_reducible refine gate_dst (N := 7) rfl ?_); (try (refine gate_guard (by rfl) ?_; dsimp only)); refine box_event ?hg (N := 7) ?hd (cs := #[.int .i64 0, .string (⟨#[]⟩ : ByteArray), .int .i64 0, .int .i64 0]) (t := 168) ?hr ?_; (case hd => rfl); (case hg => rfl); (case hr => exact z200_); intro gb132 hg w61 hbox hb; replace HO_131000 := q_ (Kd.R_below z35_ hb); replace HO_131001 := q_ (Kd.R_below z23_ hb); have BK132 := q_ (hbox); have GW132 := q_ ((z146_ : w.heap.size ≤ gb132)); have GE132 := q_ ((z146_ : w.heap.size ≤ gb132)); replace HB := q_ (below_step z12_ hb); have NB123_132 := q_ ((z140_ : gb123 ≠ gb132)); have NB132_123 := q_ ((z141_ : gb132 ≠ gb123)); replace BK123 := q_ (blk_below (g := gb123) (o := .cells #[.slice none 0 0, .slice none 0 0] 95 (0, 0)) z9_ hb); have NB130_132 := q_ ((z142_ : gb130 ≠ gb132)); have NB132_130 := q_ ((z143_ : gb132 ≠ gb130)); replace BK130 := q_ (blk_below (g := gb130) (o := .cells #[u131000, u131001] 95 (0, 0)) z13_ hb); clear hb hbox hg; have hnb62 := NB132_123.out; have hnc62 := NB123_132.out; have hnb63 := NB132_130.out; have hnc63 := NB130_132.out; obtain ⟨hcz64_0, hcz64_1, hcz64_2, hcz64_3, hfz64_0, hfz64_1, hfz64_2, hfz64_3⟩ := cs4_ BK132.out) | ((with_reducible refine gate_store (t := 168) (p := 7) rfl ?_); refine store_event (t := 168) (p := 7) (v := ?vo_w65) (w1 := ((((w61.setCell ⟨gb132, 0, none⟩ (.int .i64 ((rd_T168 l1 x6_1).f0))).setCell ⟨gb132, 1, none⟩ (.string ((rd_T168 l1 x6_1).f1))).setCell ⟨gb132, 2, none⟩ (.int .i64 ((rd_T168 l1 x6_1).f2.f0))).setCell ⟨gb132, 3, none⟩ (.int .i64 ((rd_T168 l1 x6_1).f2.f1)))) ?hg ?ho ?hn ?hr ?_; (case ho => rfl); (case hg => rfl); (case hn => rfl); (case hr => exact z200_); intro w65 hw; have n0_ : Aside0 (Kd.R Kd.string 9 w65 w.heap.size (fun _ => True) u131000 x131000_1) := ⟨(by rw [hw]; exact (by (with_reducible repeat (first | apply Kd.R_alloc | apply Kd.R_drewN | apply Kd.R_drew)); exact Kd.R_mono (Kd.R_far (p := ⟨gb132, 3, none⟩) (Kd.R_far (p := ⟨gb132, 2, none⟩) (Kd.R_far (p := ⟨gb132, 1, none⟩) (Kd.R_far (p := ⟨gb132, 0, none⟩) (Kd.R_types HO_131000.out BK132.out (by decide)) (fun _ hk => hk.2) (.int .i64 ((rd_T168 l1 x6_1).f0))) (fun _ hk => hk.2) (.string ((rd_T168 l1 x6_1).f1))) (fun _ hk => hk.2) (.int .i64 ((rd_T168 l1 x6_1).f2.f0))) (fun _ hk => hk.2) (.int .i64 ((rd_T168 l1 x6_1).f2.f1))) (fun _ hk => trivial)))⟩; have n1_ : Aside0 (Kd.R k166 166 w65 w.heap.size (fun _ => True) u131001 x131001_1) := ⟨(by rw [hw]; exact (by (with_reducible repeat (first | apply Kd.R_alloc | apply Kd.R_drewN | apply Kd.R_drew)); exact Kd.R_mono (Kd.R_far (p := ⟨gb132, 3, none⟩) (Kd.R_far (p := ⟨gb132, 2, none⟩) (Kd.R_far (p := ⟨gb132, 1, none⟩) (Kd.R_far (p := ⟨gb132, 0, none⟩) (Kd.R_types HO_131001.out BK132.out (by decide)) (fun _ hk => hk.2) (.int .i64 ((rd_T168 l1 x6_1).f0))) (fun _ hk => hk.2) (.string ((rd_T168 l1 x6_1).f1))) (fun _ hk => hk.2) (.int .i64 ((rd_T168 l1 x6_1).f2.f0))) (fun _ hk => hk.2) (.int .i64 ((rd_T168 l1 x6_1).f2.f1))) (fun _ hk => trivial)))⟩; have n2_ : Aside0 (w65.heap[gb123]? = some (.cells #[.slice none 0 0, .slice none 0 0] 95 (0, 0))) := ⟨z194_⟩; have n3_ : Aside0 (w65.heap[gb130]? = some (.cells #[u131000, u131001] 95 (0, 0))) := ⟨z195_⟩; have n4_ : Aside0 (w65.heap[gb132]? = some (.cells #[.int .i64 ((rd_T168 l1 x6_1).f0), .string ((rd_T168 l1 x6_1).f1), .int .i64 ((rd_T168 l1 x6_1).f2.f0), .int .i64 ((rd_T168 l1 x6_1).f2.f1)] 168 (0, 0))) := ⟨z197_⟩; have n5_ : Aside0 (Below w.heap.size w w65) := ⟨z196_⟩; clear hw; clear HO_131000; clear HO_131001; clear BK123; clear BK130; clear BK132; clear HB; have HO_131000 := n0_; have HO_131001 := n1_; have BK123 := n2_; have BK130 := n3_; have BK132 := n4_; have HB := n5_; clear n0_ n1_ n2_ n3_ n4_ n5_; obtain ⟨hcz66_0, hcz66_1, hcz66_2, hcz66_3, hfz66_0, hfz66_1, hfz66_2, hfz66_3⟩ := cs4_ BK132.out; have hnb67 := NB130_123.out; have hnc67 := NB123_130.out; obtain ⟨hcz68_0, hcz68_1, hfz68_0, hfz68_1⟩ := cs2_ BK130.out; obtain ⟨Ao69, co69, eo69⟩ := Kd.R_slice HO_131000.out; subst eo69) | ((with_reducible refine gate_callee (f := 106) rfl ?_); refine goesL_ (some 26) rfl rfl Try.func106 (by kernel_rfl) rfl #[.int .i64 ((rd_T168 l1 x6_1).f0), .int .i64 0, .int .i64 (wrap64 ((x131000_1.length : Int) - 1))] rfl z1_ ?_; (with_reducible refine (spec_l1In.calls ((rd_T168 l1 x6_1).f0) 0 (wrap64 ((x131000_1.length : Int) - 1)) true _ A16.out).mono ?_); rintro e w' ⟨rfl, ⟨nd, rfl⟩⟩; refine ⟨_, rfl, ?_⟩; (try (rw [drewN_self w65]; generalize hq_ : World.drewN w65 _ = w65; have n0_ : Aside0 (Kd.R Kd.string 9 w65 w.heap.size (fun _ => True) (.slice Ao69 x131000_1.length co69) x131000_1) := ⟨z188_⟩; have n1_ : Aside0 (Kd.R k166 166 w65 w.heap.size (fun _ => True) u131001 x131001_1) := ⟨z189_⟩; have n2_ : Aside0 (w65.heap[gb123]? = some (.cells #[.slice none 0 0, .slice none 0 0] 95 (0, 0))) := ⟨z193_⟩; have n3_ : Aside0 (w65.heap[gb130]? = some (.cells #[.slice Ao69 x131000_1.length co69, u131001] 95 (0, 0))) := ⟨z190_⟩; have n4_ : Aside0 (w65.heap[gb132]? = some (.cells #[.int .i64 ((rd_T168 l1 x6_1).f0), .string ((rd_T168 l1 x6_1).f1), .int .i64 ((rd_T168 l1 x6_1).f2.f0), .int .i64 ((rd_T168 l1 x6_1).f2.f1)] 168 (0, 0))) := ⟨z191_⟩; have n5_ : Aside0 (Below w.heap.size w w65) := ⟨z192_⟩; clear HO_131000 HO_131001 BK123 BK130 BK132 HB hq_; have HO_131000 := n0_; have HO_131001 := n1_; have BK123 := n2_; have BK130 := n3_; have BK132 := n4_; have HB := n5_; clear n0_ n1_ n2_ n3_ n4_ n5_)); obtain ⟨hcq123_0, hcq123_1, hfq123_0, hfq123_1⟩ := cs2_ BK123.out; obtain ⟨hcq130_0, hcq130_1, hfq130_0, hfq130_1⟩ := cs2_ BK130.out; obtain ⟨hcq132_0, hcq132_1, hcq132_2, hcq132_3, hfq132_0, hfq132_1, hfq132_2, hfq132_3⟩ := cs4_ BK132.out; have p20 : 0 ≤ (((rd_T168 l1 x6_1).f0) : Int) := of_decide_eq_true z2_; have q20 : (((rd_T168 l1 x6_1).f0) : Int) < ((x131000_1.length : Int) : Int) := of_decide_eq_true z2_; obtain ⟨go20, co20, eo20, gb20, gl20, cl20, HG20⟩ := Kd.R_form HO_131000.out (by omega); (first | cases eo20 | (injection eo20 with ea_ en_ ec_; (first | subst ea_ | (injection ea_ with ea_; subst ea_)); subst ec_; clear en_)); have GB20 := q_ gb20; have GG20 := q_ HG20; clear gb20 gl20 HG20; obtain ⟨hx20_0, hf20_0⟩ := Kd.R_celln (⟨#[]⟩ : ByteArray) HO_131000.out (((rd_T168 l1 x6_1).f0) : Int) p20 q20; replace p20 := eq_true p20; replace q20 := eq_true q20; obtain ⟨hy70_, hz70_⟩ := Kd.R_celln (⟨#[]⟩ : ByteArray) HO_131000.out (((rd_T168 l1 x6_1).f0) : Int) (of_decide_eq_true z2_) (of_decide_eq_true z2_); have HP70 := Kd.R_putg HO_131000.out (((rd_T168 l1 x6_1).f0) : Int) ((rd_T168 l1 x6_1).f1)) | ((with_reducible refine gate_store (t := 9) (p := 33) rfl ?_); refine store_event (t := 9) (p := 33) (v := ?vo_w71) (w1 := (w65.setCell ⟨go20, (((rd_T168 l1 x6_1).f0) : Int).toNat, none⟩ (.string ((rd_T168 l1 x6_1).f1)))) ?hg ?ho ?hn ?hr ?_; (case ho => rfl); (case hg => rfl); (case hn => rfl); (case hr => exact z200_); intro w71 hw; have hg : w65.grownBy w71 (some go20) := (by rw [hw]; exact HP70.2); have hp_ : Kd.R Kd.string 9 w71 w.heap.size (fun _ => True) (.slice (some ⟨go20, 0, none⟩) x131000_1.length co69) y134 := (by rw [hw, Ny134.out]; exact HP70.1); clear HP70; replace HO_131001 := q_ (Kd.R_over' (v := (.slice (some ⟨go20, 0, none⟩) x131000_1.length co69)) z23_ (Kd.R_typed HO_131000.out) (by decide) hg); replace BK123 := q_ (blk_grown (g := gb123) (o := .cells #[.slice none 0 0, .slice none 0 0] 95 (0, 0)) z9_ hg (Kd.R_ne HO_131000.out BK123.out (by decide))); replace BK130 := q_ (blk_grown (g := gb130) (o := .cells #[.slice (some ⟨go20, 0, none⟩) x131000_1.length co69, u131001] 95 (0, 0)) z13_ hg (Kd.R_ne HO_131000.out BK130.out (by decide))); replace BK132 := q_ (blk_grown (g := gb132) (o := .cells #[.int .i64 ((rd_T168 l1 x6_1).f0), .string ((rd_T168 l1 x6_1).f1), .int .i64 ((rd_T168 l1 x6_1).f2.f0), .int .i64 ((rd_T168 l1 x6_1).f2.f1)] 168 (0, 0)) z48_ hg (Kd.R_ne HO_131000.out BK132.out (by decide))); replace HO_131000 := q_ (hp_); replace HB := q_ ((z129_ : Below w.heap.size w w71)); clear hg hw hp_; obtain ⟨hcz72_0, hcz72_1, hcz72_2, hcz72_3, hfz72_0, hfz72_1, hfz72_2, hfz72_3⟩ := cs4_ BK132.out; obtain ⟨hcz73_0, hcz73_1, hfz73_0, hfz73_1⟩ := cs2_ BK130.out; obtain ⟨Ao74, co74, eo74⟩ := Kd.R_slice HO_131001.out; subst eo74; have p60 : 0 ≤ ((ji58) : Int) := of_decide_eq_true z2_; have q60 : ((ji58) : Int) < ((x131001_1.length : Int) : Int) := of_decide_eq_true z2_; obtain ⟨go60, co60, eo60, gb60, gl60, cl60, HG60⟩ := Kd.R_form HO_131001.out (by omega); (first | cases eo60 | (injection eo60 with ea_ en_ ec_; (first | subst ea_ | (injection ea_ with ea_; subst ea_)); subst ec_; clear en_)); have GB60 := q_ gb60; have GG60 := q_ HG60; clear gb60 gl60 HG60; obtain ⟨ce60, hcl60, hM60, hcc60, hfr60⟩ := Kd.R_elem HO_131001.out z166 ((ji58) : Int) p60 q60; obtain rfl := k166_openM hM60; have hx60_0 : w71.cell? ⟨go60, ((ji58) : Int).toNat * 2, none⟩ = some (.int .i64 ((rd_T166 x131001_1 (ji58)).f0)) := hcc60 0 _ rfl; have hx60_1 : w71.cell? ⟨go60, ((ji58) : Int).toNat * 2 + 1, none⟩ = some (.int .i64 ((rd_T166 x131001_1 (ji58)).f1)) := hcc60 1 _ rfl; have hf60_0 : w71.frozen? ⟨go60, ((ji58) : Int).toNat * 2, none⟩ = false := hfr60 0; have hf60_1 : w71.frozen? ⟨go60, ((ji58) : Int).toNat * 2 + 1, none⟩ = false := hfr60 1; clear hcl60 hcc60 hfr60 hM60; replace p60 := eq_true p60; replace q60 := eq_true q60; have HX75 := q_ (show Kd.R k166 166 w71 w.heap.size (fun _ => True) (.slice (some ⟨go60, 0, none⟩) x131001_1.length co74) x131001_1 from z23_); obtain ⟨ce75, hcl75, hM75, hcc75, hfr75⟩ := Kd.R_elem HX75.out z166 ((ji58) : Int) (of_decide_eq_true z2_) z160_; obtain rfl := k166_openM hM75; have HP75 := Kd.R_seg HX75.out ((ji58) : Int) (of_decide_eq_true z2_) z160_ (seg := [.int .i64 ((rd_T168 l1 x6_1).f2.f0), .int .i64 ((rd_T168 l1 x6_1).f2.f1)]) (j := 0) hcl75 hcc75 (show 2 ≤ 2 from by decide) (x' := (⟨(rd_T168 l1 x6_1).f2.f0, (rd_T168 l1 x6_1).f2.f1⟩ : S166)) (k166_mkM _ _ _ (⟨(rd_T168 l1 x6_1).f2.f0, (rd_T168 l1 x6_1).f2.f1⟩ : S166) ) (fun _ hk => hk); have hx75_0 := hcc75 0 _ rfl; (try simp only [show (k166).sz = 2 from rfl, Nat.mul_one, Nat.add_zero] at hx75_0); have hf75_0 := hfr75 0; (try simp only [show (k166).sz = 2 from rfl, Nat.mul_one, Nat.add_zero] at hf75_0); have hx75_1 := hcc75 1 _ rfl; (try simp only [show (k166).sz = 2 from rfl, Nat.mul_one, Nat.add_zero] at hx75_1); have hf75_1 := hfr75 1; (try simp only [show (k166).sz = 2 from rfl, Nat.mul_one, Nat.add_zero] at hf75_1); clear hcl75 hcc75 hfr75 hM75) | ((with_reducible refine gate_store (t := 166) (p := 58) rfl ?_); refine store_event (t := 166) (p := 58) (v := ?vo_w76) (w1 := ((w71.setCell ⟨go60, ((ji58) : Int).toNat * 2, none⟩ (.int .i64 ((rd_T168 l1 x6_1).f2.f0))).setCell ⟨go60, ((ji58) : Int).toNat * 2 + 1, none⟩ (.int .i64 ((rd_T168 l1 x6_1).f2.f1)))) ?hg ?ho ?hn ?hr ?_; (case ho => rfl); (case hg => rfl); (case hn => rfl); (case hr => exact z200_); intro w76 hw; have hg : w71.grownBy w76 (some go60) := (by rw [hw]; exact HP75.2); have hp_ : Kd.R k166 166 w76 w.heap.size (fun _ => True) (.slice (some ⟨go60, 0, none⟩) x131001_1.length co74) y136 := (by rw [hw, Ny136.out]; exact HP75.1); clear HP75; replace HO_131000 := q_ (Kd.R_over' (v := (.slice (some ⟨go60, 0, none⟩) x131001_1.length co74)) z35_ (Kd.R_typed HO_131001.out) (by decide) hg); replace BK123 := q_ (blk_grown (g := gb123) (o := .cells #[.slice none 0 0, .slice none 0 0] 95 (0, 0)) z9_ hg (Kd.R_ne HO_131001.out BK123.out (by decide))); replace BK130 := q_ (blk_grown (g := gb130) (o := .cells #[.slice (some ⟨go20, 0, none⟩) x131000_1.length co69, .slice (some ⟨go60, 0, none⟩) x131001_1.length co74] 95 (0, 0)) z13_ hg (Kd.R_ne HO_131001.out BK130.out (by decide))); replace BK132 := q_ (blk_grown (g := gb132) (o := .cells #[.int .i64 ((rd_T168 l1 x6_1).f0), .string ((rd_T168 l1 x6_1).f1), .int .i64 ((rd_T168 l1 x6_1).f2.f0), .int .i64 ((rd_T168 l1 x6_1).f2.f1)] 168 (0, 0)) z48_ hg (Kd.R_ne HO_131001.out BK132.out (by decide))); replace HO_131001 := q_ (hp_); replace HB := q_ ((by rw [hw]; exact below_set (below_set (HB.out) GB60.out) GB60.out : Below w.heap.size w w76)); clear hg hw hp_))
            go_roundg k1
            case measure => have := HK1.out; omega
            case rel => exact ⟨(wrap64 (x6_1 + 1)), (y134), (y136), (.slice (some ⟨go20, 0, none⟩) x131000_1.length co69), (.slice (some ⟨go60, 0, none⟩) x131001_1.length co74), z30_, H', ⟨z89_⟩, ⟨z35_⟩, ⟨z23_⟩, ⟨z9_⟩, ⟨z13_⟩, ⟨z17_⟩⟩
           ·rw [if_neg c59] at H
            exact absurd H (by simp)
          ·rw [if_neg c57] at H
           have c57b0 : decide ((wrap64 ((-1) - ((rd_T168 l1 x6_1).f0))) < (x131001_1.length : Int)) = false := decide_eq_false c57
           clear c57
           have H' := q_ H
           clear H
           have p131 : 0 ≤ (x6_1 : Int) := of_decide_eq_true z2_
           have q131 : x6_1 < (l1.length : Int) := of_decide_eq_true z2_
           obtain ⟨ad131, e131, hx131_0, hx131_1, hx131_2, hx131_3⟩ := at_T168 HR1.out x6_1 p131 q131
           cases e131
           replace hx131_0 := up_ HB hx131_0
           replace hx131_1 := up_ HB hx131_1
           replace hx131_2 := up_ HB hx131_2
           replace hx131_3 := up_ HB hx131_3
           replace p131 := eq_true p131
           replace q131 := eq_true q131
           go_wp2_with (first | ((with_reducible refine gate_dst (N := 7) rfl ?_); (try (refine gate_guard (by rfl) ?_; dsimp only)); refine box_event ?hg (N := 7) ?hd (cs := #[.int .i64 0, .string (⟨#[]⟩ : ByteArray), .int .i64 0, .int .i64 0]) (t := 168) ?hr ?_; (case hd => rfl); (case hg => rfl); (case hr => exact z200_); intro gb132 hg w77 hbox hb; replace HO_131000 := q_ (Kd.R_below z35_ hb); replace HO_131001 := q_ (Kd.R_below z23_ hb); have BK132 := q_ (hbox); have GW132 := q_ ((z146_ : w.heap.size ≤ gb132)); have GE132 := q_ ((z146_ : w.heap.size ≤ gb132)); replace HB := q_ (below_step z12_ hb); have NB123_132 := q_ ((z140_ : gb123 ≠ gb132)); have NB132_123 := q_ ((z141_ : gb132 ≠ gb123)); replace BK123 := q_ (blk_below (g := gb123) (o := .cells #[.slice none 0 0, .slice none 0 0] 95 (0, 0)) z9_ hb); have NB130_132 := q_ ((z142_ : gb130 ≠ gb132)); have NB132_130 := q_ ((z143_ : gb132 ≠ gb130)); replace BK130 := q_ (blk_below (g := gb130) (o := .cells #[u131000, u131001] 95 (0, 0)) z13_ hb); clear hb hbox hg; have hnb78 := NB132_123.out; have hnc78 := NB123_132.out; have hnb79 := NB132_130.out; have hnc79 := NB130_132.out; obtain ⟨hcz80_0, hcz80_1, hcz80_2, hcz80_3, hfz80_0, hfz80_1, hfz80_2, hfz80_3⟩ := cs4_ BK132.out) | ((with_reducible refine gate_store (t := 168) (p := 7) rfl ?_); refine store_event (t := 168) (p := 7) (v := ?vo_w81) (w1 := ((((w77.setCell ⟨gb132, 0, none⟩ (.int .i64 ((rd_T168 l1 x6_1).f0))).setCell ⟨gb132, 1, none⟩ (.string ((rd_T168 l1 x6_1).f1))).setCell ⟨gb132, 2, none⟩ (.int .i64 ((rd_T168 l1 x6_1).f2.f0))).setCell ⟨gb132, 3, none⟩ (.int .i64 ((rd_T168 l1 x6_1).f2.f1)))) ?hg ?ho ?hn ?hr ?_; (case ho => rfl); (case hg => rfl); (case hn => rfl); (case hr => exact z200_); intro w81 hw; have n0_ : Aside0 (Kd.R Kd.string 9 w81 w.heap.size (fun _ => True) u131000 x131000_1) := ⟨(by rw [hw]; exact (by (with_reducible repeat (first | apply Kd.R_alloc | apply Kd.R_drewN | apply Kd.R_drew)); exact Kd.R_mono (Kd.R_far (p := ⟨gb132, 3, none⟩) (Kd.R_far (p := ⟨gb132, 2, none⟩) (Kd.R_far (p := ⟨gb132, 1, none⟩) (Kd.R_far (p := ⟨gb132, 0, none⟩) (Kd.R_types HO_131000.out BK132.out (by decide)) (fun _ hk => hk.2) (.int .i64 ((rd_T168 l1 x6_1).f0))) (fun _ hk => hk.2) (.string ((rd_T168 l1 x6_1).f1))) (fun _ hk => hk.2) (.int .i64 ((rd_T168 l1 x6_1).f2.f0))) (fun _ hk => hk.2) (.int .i64 ((rd_T168 l1 x6_1).f2.f1))) (fun _ hk => trivial)))⟩; have n1_ : Aside0 (Kd.R k166 166 w81 w.heap.size (fun _ => True) u131001 x131001_1) := ⟨(by rw [hw]; exact (by (with_reducible repeat (first | apply Kd.R_alloc | apply Kd.R_drewN | apply Kd.R_drew)); exact Kd.R_mono (Kd.R_far (p := ⟨gb132, 3, none⟩) (Kd.R_far (p := ⟨gb132, 2, none⟩) (Kd.R_far (p := ⟨gb132, 1, none⟩) (Kd.R_far (p := ⟨gb132, 0, none⟩) (Kd.R_types HO_131001.out BK132.out (by decide)) (fun _ hk => hk.2) (.int .i64 ((rd_T168 l1 x6_1).f0))) (fun _ hk => hk.2) (.string ((rd_T168 l1 x6_1).f1))) (fun _ hk => hk.2) (.int .i64 ((rd_T168 l1 x6_1).f2.f0))) (fun _ hk => hk.2) (.int .i64 ((rd_T168 l1 x6_1).f2.f1))) (fun _ hk => trivial)))⟩; have n2_ : Aside0 (w81.heap[gb123]? = some (.cells #[.slice none 0 0, .slice none 0 0] 95 (0, 0))) := ⟨z194_⟩; have n3_ : Aside0 (w81.heap[gb130]? = some (.cells #[u131000, u131001] 95 (0, 0))) := ⟨z195_⟩; have n4_ : Aside0 (w81.heap[gb132]? = some (.cells #[.int .i64 ((rd_T168 l1 x6_1).f0), .string ((rd_T168 l1 x6_1).f1), .int .i64 ((rd_T168 l1 x6_1).f2.f0), .int .i64 ((rd_T168 l1 x6_1).f2.f1)] 168 (0, 0))) := ⟨z197_⟩; have n5_ : Aside0 (Below w.heap.size w w81) := ⟨z196_⟩; clear hw; clear HO_131000; clear HO_131001; clear BK123; clear BK130; clear BK132; clear HB; have HO_131000 := n0_; have HO_131001 := n1_; have BK123 := n2_; have BK130 := n3_; have BK132 := n4_; have HB := n5_; clear n0_ n1_ n2_ n3_ n4_ n5_; obtain ⟨hcz82_0, hcz82_1, hcz82_2, hcz82_3, hfz82_0, hfz82_1, hfz82_2, hfz82_3⟩ := cs4_ BK132.out; have hnb83 := NB130_123.out; have hnc83 := NB123_130.out; obtain ⟨hcz84_0, hcz84_1, hfz84_0, hfz84_1⟩ := cs2_ BK130.out; obtain ⟨Ao85, co85, eo85⟩ := Kd.R_slice HO_131000.out; subst eo85) | ((with_reducible refine gate_callee (f := 106) rfl ?_); refine goesL_ (some 26) rfl rfl Try.func106 (by kernel_rfl) rfl #[.int .i64 ((rd_T168 l1 x6_1).f0), .int .i64 0, .int .i64 (wrap64 ((x131000_1.length : Int) - 1))] rfl z1_ ?_; (with_reducible refine (spec_l1In.calls ((rd_T168 l1 x6_1).f0) 0 (wrap64 ((x131000_1.length : Int) - 1)) true _ A16.out).mono ?_); rintro e w' ⟨rfl, ⟨nd, rfl⟩⟩; refine ⟨_, rfl, ?_⟩; (try (rw [drewN_self w81]; generalize hq_ : World.drewN w81 _ = w81; have n0_ : Aside0 (Kd.R Kd.string 9 w81 w.heap.size (fun _ => True) (.slice Ao85 x131000_1.length co85) x131000_1) := ⟨z188_⟩; have n1_ : Aside0 (Kd.R k166 166 w81 w.heap.size (fun _ => True) u131001 x131001_1) := ⟨z189_⟩; have n2_ : Aside0 (w81.heap[gb123]? = some (.cells #[.slice none 0 0, .slice none 0 0] 95 (0, 0))) := ⟨z193_⟩; have n3_ : Aside0 (w81.heap[gb130]? = some (.cells #[.slice Ao85 x131000_1.length co85, u131001] 95 (0, 0))) := ⟨z190_⟩; have n4_ : Aside0 (w81.heap[gb132]? = some (.cells #[.int .i64 ((rd_T168 l1 x6_1).f0), .string ((rd_T168 l1 x6_1).f1), .int .i64 ((rd_T168 l1 x6_1).f2.f0), .int .i64 ((rd_T168 l1 x6_1).f2.f1)] 168 (0, 0))) := ⟨z191_⟩; have n5_ : Aside0 (Below w.heap.size w w81) := ⟨z192_⟩; clear HO_131000 HO_131001 BK123 BK130 BK132 HB hq_; have HO_131000 := n0_; have HO_131001 := n1_; have BK123 := n2_; have BK130 := n3_; have BK132 := n4_; have HB := n5_; clear n0_ n1_ n2_ n3_ n4_ n5_)); obtain ⟨hcq123_0, hcq123_1, hfq123_0, hfq123_1⟩ := cs2_ BK123.out; obtain ⟨hcq130_0, hcq130_1, hfq130_0, hfq130_1⟩ := cs2_ BK130.out; obtain ⟨hcq132_0, hcq132_1, hcq132_2, hcq132_3, hfq132_0, hfq132_1, hfq132_2, hfq132_3⟩ := cs4_ BK132.out; have p20 : 0 ≤ (((rd_T168 l1 x6_1).f0) : Int) := of_decide_eq_true z2_; have q20 : (((rd_T168 l1 x6_1).f0) : Int) < ((x131000_1.length : Int) : Int) := of_decide_eq_true z2_; obtain ⟨go20, co20, eo20, gb20, gl20, cl20, HG20⟩ := Kd.R_form HO_131000.out (by omega); (first | cases eo20 | (injection eo20 with ea_ en_ ec_; (first | subst ea_ | (injection ea_ with ea_; subst ea_)); subst ec_; clear en_)); have GB20 := q_ gb20; have GG20 := q_ HG20; clear gb20 gl20 HG20; obtain ⟨hx20_0, hf20_0⟩ := Kd.R_celln (⟨#[]⟩ : ByteArray) HO_131000.out (((rd_T168 l1 x6_1).f0) : Int) p20 q20; replace p20 := eq_true p20; replace q20 := eq_true q20; obtain ⟨hy86_, hz86_⟩ := Kd.R_celln (⟨#[]⟩ : ByteArray) HO_131000.out (((rd_T168 l1 x6_1).f0) : Int) (of_decide_eq_true z2_) (of_decide_eq_true z2_); have HP86 := Kd.R_putg HO_131000.out (((rd_T168 l1 x6_1).f0) : Int) ((rd_T168 l1 x6_1).f1)) | ((with_reducible refine gate_store (t := 9) (p := 33) rfl ?_); refine store_event (t := 9) (p := 33) (v := ?vo_w87) (w1 := (w81.setCell ⟨go20, (((rd_T168 l1 x6_1).f0) : Int).toNat, none⟩ (.string ((rd_T168 l1 x6_1).f1)))) ?hg ?ho ?hn ?hr ?_; (case ho => rfl); (case hg => rfl); (case hn => rfl); (case hr => exact z200_); intro w87 hw; have hg : w81.grownBy w87 (some go20) := (by rw [hw]; exact HP86.2); have hp_ : Kd.R Kd.string 9 w87 w.heap.size (fun _ => True) (.slice (some ⟨go20, 0, none⟩) x131000_1.length co85) y134 := (by rw [hw, Ny134.out]; exact HP86.1); clear HP86; replace HO_131001 := q_ (Kd.R_over' (v := (.slice (some ⟨go20, 0, none⟩) x131000_1.length co85)) z23_ (Kd.R_typed HO_131000.out) (by decide) hg); replace BK123 := q_ (blk_grown (g := gb123) (o := .cells #[.slice none 0 0, .slice none 0 0] 95 (0, 0)) z9_ hg (Kd.R_ne HO_131000.out BK123.out (by decide))); replace BK130 := q_ (blk_grown (g := gb130) (o := .cells #[.slice (some ⟨go20, 0, none⟩) x131000_1.length co85, u131001] 95 (0, 0)) z13_ hg (Kd.R_ne HO_131000.out BK130.out (by decide))); replace BK132 := q_ (blk_grown (g := gb132) (o := .cells #[.int .i64 ((rd_T168 l1 x6_1).f0), .string ((rd_T168 l1 x6_1).f1), .int .i64 ((rd_T168 l1 x6_1).f2.f0), .int .i64 ((rd_T168 l1 x6_1).f2.f1)] 168 (0, 0)) z48_ hg (Kd.R_ne HO_131000.out BK132.out (by decide))); replace HO_131000 := q_ (hp_); replace HB := q_ ((z129_ : Below w.heap.size w w87)); clear hg hw hp_; obtain ⟨hcz88_0, hcz88_1, hcz88_2, hcz88_3, hfz88_0, hfz88_1, hfz88_2, hfz88_3⟩ := cs4_ BK132.out; obtain ⟨hcz89_0, hcz89_1, hfz89_0, hfz89_1⟩ := cs2_ BK130.out; obtain ⟨Ao90, co90, eo90⟩ := Kd.R_slice HO_131001.out; subst eo90))
           go_roundg k1
           case measure => have := HK1.out; omega
           case rel => exact ⟨(wrap64 (x6_1 + 1)), (y134), (x131001_1), (.slice (some ⟨go20, 0, none⟩) x131000_1.length co85), (.slice Ao90 x131001_1.length co90), z30_, H', ⟨z89_⟩, ⟨z35_⟩, ⟨z23_⟩, ⟨z9_⟩, ⟨z13_⟩, ⟨z17_⟩⟩
         ·rw [if_neg c56] at H
          have c56b0 : (((rd_T168 l1 x6_1).f0) == (-2)) = false := beq_eq_false_iff_ne.mpr c56
          have c56b1 : (((rd_T168 l1 x6_1).f0) != (-2)) = true := bne_iff_ne.mpr c56
          have H' := q_ H
          clear H
          have p131 : 0 ≤ (x6_1 : Int) := of_decide_eq_true z2_
          have q131 : x6_1 < (l1.length : Int) := of_decide_eq_true z2_
          obtain ⟨ad131, e131, hx131_0, hx131_1, hx131_2, hx131_3⟩ := at_T168 HR1.out x6_1 p131 q131
          cases e131
          replace hx131_0 := up_ HB hx131_0
          replace hx131_1 := up_ HB hx131_1
          replace hx131_2 := up_ HB hx131_2
          replace hx131_3 := up_ HB hx131_3
          replace p131 := eq_true p131
          replace q131 := eq_true q131
          go_wp2_with (first | ((with_reducible refine gate_dst (N := 7) rfl ?_); (try (refine gate_guard (by rfl) ?_; dsimp only)); refine box_event ?hg (N := 7) ?hd (cs := #[.int .i64 0, .string (⟨#[]⟩ : ByteArray), .int .i64 0, .int .i64 0]) (t := 168) ?hr ?_; (case hd => rfl); (case hg => rfl); (case hr => exact z200_); intro gb132 hg w91 hbox hb; replace HO_131000 := q_ (Kd.R_below z35_ hb); replace HO_131001 := q_ (Kd.R_below z23_ hb); have BK132 := q_ (hbox); have GW132 := q_ ((z146_ : w.heap.size ≤ gb132)); have GE132 := q_ ((z146_ : w.heap.size ≤ gb132)); replace HB := q_ (below_step z12_ hb); have NB123_132 := q_ ((z140_ : gb123 ≠ gb132)); have NB132_123 := q_ ((z141_ : gb132 ≠ gb123)); replace BK123 := q_ (blk_below (g := gb123) (o := .cells #[.slice none 0 0, .slice none 0 0] 95 (0, 0)) z9_ hb); have NB130_132 := q_ ((z142_ : gb130 ≠ gb132)); have NB132_130 := q_ ((z143_ : gb132 ≠ gb130)); replace BK130 := q_ (blk_below (g := gb130) (o := .cells #[u131000, u131001] 95 (0, 0)) z13_ hb); clear hb hbox hg; have hnb92 := NB132_123.out; have hnc92 := NB123_132.out; have hnb93 := NB132_130.out; have hnc93 := NB130_132.out; obtain ⟨hcz94_0, hcz94_1, hcz94_2, hcz94_3, hfz94_0, hfz94_1, hfz94_2, hfz94_3⟩ := cs4_ BK132.out) | ((with_reducible refine gate_store (t := 168) (p := 7) rfl ?_); refine store_event (t := 168) (p := 7) (v := ?vo_w95) (w1 := ((((w91.setCell ⟨gb132, 0, none⟩ (.int .i64 ((rd_T168 l1 x6_1).f0))).setCell ⟨gb132, 1, none⟩ (.string ((rd_T168 l1 x6_1).f1))).setCell ⟨gb132, 2, none⟩ (.int .i64 ((rd_T168 l1 x6_1).f2.f0))).setCell ⟨gb132, 3, none⟩ (.int .i64 ((rd_T168 l1 x6_1).f2.f1)))) ?hg ?ho ?hn ?hr ?_; (case ho => rfl); (case hg => rfl); (case hn => rfl); (case hr => exact z200_); intro w95 hw; have n0_ : Aside0 (Kd.R Kd.string 9 w95 w.heap.size (fun _ => True) u131000 x131000_1) := ⟨(by rw [hw]; exact (by (with_reducible repeat (first | apply Kd.R_alloc | apply Kd.R_drewN | apply Kd.R_drew)); exact Kd.R_mono (Kd.R_far (p := ⟨gb132, 3, none⟩) (Kd.R_far (p := ⟨gb132, 2, none⟩) (Kd.R_far (p := ⟨gb132, 1, none⟩) (Kd.R_far (p := ⟨gb132, 0, none⟩) (Kd.R_types HO_131000.out BK132.out (by decide)) (fun _ hk => hk.2) (.int .i64 ((rd_T168 l1 x6_1).f0))) (fun _ hk => hk.2) (.string ((rd_T168 l1 x6_1).f1))) (fun _ hk => hk.2) (.int .i64 ((rd_T168 l1 x6_1).f2.f0))) (fun _ hk => hk.2) (.int .i64 ((rd_T168 l1 x6_1).f2.f1))) (fun _ hk => trivial)))⟩; have n1_ : Aside0 (Kd.R k166 166 w95 w.heap.size (fun _ => True) u131001 x131001_1) := ⟨(by rw [hw]; exact (by (with_reducible repeat (first | apply Kd.R_alloc | apply Kd.R_drewN | apply Kd.R_drew)); exact Kd.R_mono (Kd.R_far (p := ⟨gb132, 3, none⟩) (Kd.R_far (p := ⟨gb132, 2, none⟩) (Kd.R_far (p := ⟨gb132, 1, none⟩) (Kd.R_far (p := ⟨gb132, 0, none⟩) (Kd.R_types HO_131001.out BK132.out (by decide)) (fun _ hk => hk.2) (.int .i64 ((rd_T168 l1 x6_1).f0))) (fun _ hk => hk.2) (.string ((rd_T168 l1 x6_1).f1))) (fun _ hk => hk.2) (.int .i64 ((rd_T168 l1 x6_1).f2.f0))) (fun _ hk => hk.2) (.int .i64 ((rd_T168 l1 x6_1).f2.f1))) (fun _ hk => trivial)))⟩; have n2_ : Aside0 (w95.heap[gb123]? = some (.cells #[.slice none 0 0, .slice none 0 0] 95 (0, 0))) := ⟨z194_⟩; have n3_ : Aside0 (w95.heap[gb130]? = some (.cells #[u131000, u131001] 95 (0, 0))) := ⟨z195_⟩; have n4_ : Aside0 (w95.heap[gb132]? = some (.cells #[.int .i64 ((rd_T168 l1 x6_1).f0), .string ((rd_T168 l1 x6_1).f1), .int .i64 ((rd_T168 l1 x6_1).f2.f0), .int .i64 ((rd_T168 l1 x6_1).f2.f1)] 168 (0, 0))) := ⟨z197_⟩; have n5_ : Aside0 (Below w.heap.size w w95) := ⟨z196_⟩; clear hw; clear HO_131000; clear HO_131001; clear BK123; clear BK130; clear BK132; clear HB; have HO_131000 := n0_; have HO_131001 := n1_; have BK123 := n2_; have BK130 := n3_; have BK132 := n4_; have HB := n5_; clear n0_ n1_ n2_ n3_ n4_ n5_; obtain ⟨hcz96_0, hcz96_1, hcz96_2, hcz96_3, hfz96_0, hfz96_1, hfz96_2, hfz96_3⟩ := cs4_ BK132.out; have hnb97 := NB130_123.out; have hnc97 := NB123_130.out; obtain ⟨hcz98_0, hcz98_1, hfz98_0, hfz98_1⟩ := cs2_ BK130.out; obtain ⟨Ao99, co99, eo99⟩ := Kd.R_slice HO_131000.out; subst eo99) | ((with_reducible refine gate_callee (f := 106) rfl ?_); refine goesL_ (some 26) rfl rfl Try.func106 (by kernel_rfl) rfl #[.int .i64 ((rd_T168 l1 x6_1).f0), .int .i64 0, .int .i64 (wrap64 ((x131000_1.length : Int) - 1))] rfl z1_ ?_; (with_reducible refine (spec_l1In.calls ((rd_T168 l1 x6_1).f0) 0 (wrap64 ((x131000_1.length : Int) - 1)) true _ A16.out).mono ?_); rintro e w' ⟨rfl, ⟨nd, rfl⟩⟩; refine ⟨_, rfl, ?_⟩; (try (rw [drewN_self w95]; generalize hq_ : World.drewN w95 _ = w95; have n0_ : Aside0 (Kd.R Kd.string 9 w95 w.heap.size (fun _ => True) (.slice Ao99 x131000_1.length co99) x131000_1) := ⟨z188_⟩; have n1_ : Aside0 (Kd.R k166 166 w95 w.heap.size (fun _ => True) u131001 x131001_1) := ⟨z189_⟩; have n2_ : Aside0 (w95.heap[gb123]? = some (.cells #[.slice none 0 0, .slice none 0 0] 95 (0, 0))) := ⟨z193_⟩; have n3_ : Aside0 (w95.heap[gb130]? = some (.cells #[.slice Ao99 x131000_1.length co99, u131001] 95 (0, 0))) := ⟨z190_⟩; have n4_ : Aside0 (w95.heap[gb132]? = some (.cells #[.int .i64 ((rd_T168 l1 x6_1).f0), .string ((rd_T168 l1 x6_1).f1), .int .i64 ((rd_T168 l1 x6_1).f2.f0), .int .i64 ((rd_T168 l1 x6_1).f2.f1)] 168 (0, 0))) := ⟨z191_⟩; have n5_ : Aside0 (Below w.heap.size w w95) := ⟨z192_⟩; clear HO_131000 HO_131001 BK123 BK130 BK132 HB hq_; have HO_131000 := n0_; have HO_131001 := n1_; have BK123 := n2_; have BK130 := n3_; have BK132 := n4_; have HB := n5_; clear n0_ n1_ n2_ n3_ n4_ n5_)); obtain ⟨hcq123_0, hcq123_1, hfq123_0, hfq123_1⟩ := cs2_ BK123.out; obtain ⟨hcq130_0, hcq130_1, hfq130_0, hfq130_1⟩ := cs2_ BK130.out; obtain ⟨hcq132_0, hcq132_1, hcq132_2, hcq132_3, hfq132_0, hfq132_1, hfq132_2, hfq132_3⟩ := cs4_ BK132.out; have p20 : 0 ≤ (((rd_T168 l1 x6_1).f0) : Int) := of_decide_eq_true z2_; have q20 : (((rd_T168 l1 x6_1).f0) : Int) < ((x131000_1.length : Int) : Int) := of_decide_eq_true z2_; obtain ⟨go20, co20, eo20, gb20, gl20, cl20, HG20⟩ := Kd.R_form HO_131000.out (by omega); (first | cases eo20 | (injection eo20 with ea_ en_ ec_; (first | subst ea_ | (injection ea_ with ea_; subst ea_)); subst ec_; clear en_)); have GB20 := q_ gb20; have GG20 := q_ HG20; clear gb20 gl20 HG20; obtain ⟨hx20_0, hf20_0⟩ := Kd.R_celln (⟨#[]⟩ : ByteArray) HO_131000.out (((rd_T168 l1 x6_1).f0) : Int) p20 q20; replace p20 := eq_true p20; replace q20 := eq_true q20; obtain ⟨hy100_, hz100_⟩ := Kd.R_celln (⟨#[]⟩ : ByteArray) HO_131000.out (((rd_T168 l1 x6_1).f0) : Int) (of_decide_eq_true z2_) (of_decide_eq_true z2_); have HP100 := Kd.R_putg HO_131000.out (((rd_T168 l1 x6_1).f0) : Int) ((rd_T168 l1 x6_1).f1)) | ((with_reducible refine gate_store (t := 9) (p := 33) rfl ?_); refine store_event (t := 9) (p := 33) (v := ?vo_w101) (w1 := (w95.setCell ⟨go20, (((rd_T168 l1 x6_1).f0) : Int).toNat, none⟩ (.string ((rd_T168 l1 x6_1).f1)))) ?hg ?ho ?hn ?hr ?_; (case ho => rfl); (case hg => rfl); (case hn => rfl); (case hr => exact z200_); intro w101 hw; have hg : w95.grownBy w101 (some go20) := (by rw [hw]; exact HP100.2); have hp_ : Kd.R Kd.string 9 w101 w.heap.size (fun _ => True) (.slice (some ⟨go20, 0, none⟩) x131000_1.length co99) y134 := (by rw [hw, Ny134.out]; exact HP100.1); clear HP100; replace HO_131001 := q_ (Kd.R_over' (v := (.slice (some ⟨go20, 0, none⟩) x131000_1.length co99)) z23_ (Kd.R_typed HO_131000.out) (by decide) hg); replace BK123 := q_ (blk_grown (g := gb123) (o := .cells #[.slice none 0 0, .slice none 0 0] 95 (0, 0)) z9_ hg (Kd.R_ne HO_131000.out BK123.out (by decide))); replace BK130 := q_ (blk_grown (g := gb130) (o := .cells #[.slice (some ⟨go20, 0, none⟩) x131000_1.length co99, u131001] 95 (0, 0)) z13_ hg (Kd.R_ne HO_131000.out BK130.out (by decide))); replace BK132 := q_ (blk_grown (g := gb132) (o := .cells #[.int .i64 ((rd_T168 l1 x6_1).f0), .string ((rd_T168 l1 x6_1).f1), .int .i64 ((rd_T168 l1 x6_1).f2.f0), .int .i64 ((rd_T168 l1 x6_1).f2.f1)] 168 (0, 0)) z48_ hg (Kd.R_ne HO_131000.out BK132.out (by decide))); replace HO_131000 := q_ (hp_); replace HB := q_ ((z129_ : Below w.heap.size w w101)); clear hg hw hp_; obtain ⟨hcz102_0, hcz102_1, hcz102_2, hcz102_3, hfz102_0, hfz102_1, hfz102_2, hfz102_3⟩ := cs4_ BK132.out))
          go_roundg k1
          case measure => have := HK1.out; omega
          case rel => exact ⟨(wrap64 (x6_1 + 1)), (y134), (x131001_1), (.slice (some ⟨go20, 0, none⟩) x131000_1.length co99), (u131001), z30_, H', ⟨z89_⟩, ⟨z35_⟩, ⟨z23_⟩, ⟨z9_⟩, ⟨z13_⟩, ⟨z17_⟩⟩
       ·rw [if_neg c19] at H
        exact absurd H (by simp)
      ·rw [if_neg c18] at H
       exact absurd H (by simp)
     ·replace c17 := Bool.eq_false_iff.mpr c17
      subst c17
      have H1 : (if ((rd_T168 l1 x6_1).f0) = (-1) then (if (wrap64 ((-1) - ((rd_T168 l1 x6_1).f0))) < (x131001_1.length : Int) then (if 0 ≤ (wrap64 ((-1) - ((rd_T168 l1 x6_1).f0))) then (spec_Do.l0 k1 l1 (wrap64 (x6_1 + 1)) x131000_1 (x131001_1.set ((wrap64 ((-1) - ((rd_T168 l1 x6_1).f0))) : Int).toNat (⟨(rd_T168 l1 x6_1).f2.f0, (rd_T168 l1 x6_1).f2.f1⟩ : S166))) else (none)) else (spec_Do.l0 k1 l1 (wrap64 (x6_1 + 1)) x131000_1 x131001_1)) else (if ((rd_T168 l1 x6_1).f0) = (-2) then (if (wrap64 ((-1) - ((rd_T168 l1 x6_1).f0))) < (x131001_1.length : Int) then (if 0 ≤ (wrap64 ((-1) - ((rd_T168 l1 x6_1).f0))) then (spec_Do.l0 k1 l1 (wrap64 (x6_1 + 1)) x131000_1 (x131001_1.set ((wrap64 ((-1) - ((rd_T168 l1 x6_1).f0))) : Int).toNat (⟨(rd_T168 l1 x6_1).f2.f0, (rd_T168 l1 x6_1).f2.f1⟩ : S166))) else (none)) else (spec_Do.l0 k1 l1 (wrap64 (x6_1 + 1)) x131000_1 x131001_1)) else (spec_Do.l0 k1 l1 (wrap64 (x6_1 + 1)) x131000_1 x131001_1))) = some (r1, r2) := by rw [if_neg (show ¬ (false = true) by decide)] at H; exact H
      clear H
      have H := H1
      clear H1
      by_cases c103 : ((rd_T168 l1 x6_1).f0) = (-1)
      ·rw [if_pos c103] at H
       have c103b0 : (((rd_T168 l1 x6_1).f0) == (-1)) = true := beq_iff_eq.mpr c103
       have c103b1 : (((rd_T168 l1 x6_1).f0) != (-1)) = false := bne_eq_false_iff_eq.mpr c103
       clear c103
       by_cases c104 : (wrap64 ((-1) - ((rd_T168 l1 x6_1).f0))) < (x131001_1.length : Int)
       ·rw [if_pos c104] at H
        have c104b0 : decide ((wrap64 ((-1) - ((rd_T168 l1 x6_1).f0))) < (x131001_1.length : Int)) = true := decide_eq_true c104
        clear c104
        obtain ⟨ji105, hji105⟩ : ∃ j_ : Int, (wrap64 ((-1) - ((rd_T168 l1 x6_1).f0))) = j_ := ⟨_, rfl⟩
        replace H : (if 0 ≤ (ji105) then (spec_Do.l0 k1 l1 (wrap64 (x6_1 + 1)) x131000_1 (x131001_1.set ((ji105) : Int).toNat (⟨(rd_T168 l1 x6_1).f2.f0, (rd_T168 l1 x6_1).f2.f1⟩ : S166))) else (none)) = some (r1, r2) := by first | (rw [hji105] at H; exact H) | (simp only [hji105] at H ⊢; exact H)
        (try rw [hji105] at c104b0)
        (try rw [hji105] at hji23)
        (try rw [hji105] at hji23w)
        (try rw [hji105] at hji58)
        (try rw [hji105] at hji58w)
        (try rw [hji105] at A16)
        have hji105w : (IntKind.i64.wrap ((-1) - ((rd_T168 l1 x6_1).f0))) = ji105 := (i64_w _).trans hji105
        by_cases c106 : 0 ≤ (ji105)
        ·rw [if_pos c106] at H
         have c106b0 : decide (0 ≤ (ji105)) = true := decide_eq_true c106
         clear c106
         obtain ⟨y137, hy_⟩ : ∃ y_ : List (S166), y_ = (x131001_1.set ((ji105) : Int).toNat (⟨(rd_T168 l1 x6_1).f2.f0, (rd_T168 l1 x6_1).f2.f1⟩ : S166)) := ⟨_, rfl⟩
         replace H : (spec_Do.l0 k1 l1 (wrap64 (x6_1 + 1)) x131000_1 y137) = some (r1, r2) := z7_
         have Ny137 := q_ hy_
         clear hy_
         have H' := q_ H
         clear H
         have p131 : 0 ≤ (x6_1 : Int) := of_decide_eq_true z2_
         have q131 : x6_1 < (l1.length : Int) := of_decide_eq_true z2_
         obtain ⟨ad131, e131, hx131_0, hx131_1, hx131_2, hx131_3⟩ := at_T168 HR1.out x6_1 p131 q131
         cases e131
         replace hx131_0 := up_ HB hx131_0
         replace hx131_1 := up_ HB hx131_1
         replace hx131_2 := up_ HB hx131_2
         replace hx131_3 := up_ HB hx131_3
         replace p131 := eq_true p131
         replace q131 := eq_true q131
         go_wp2_with (first | ((with_reducible refine gate_dst (N := 7) rfl ?_); (try (refine gate_guard (by rfl) ?_; dsimp only)); refine box_event ?hg (N := 7) ?hd (cs := #[.int .i64 0, .string (⟨#[]⟩ : ByteArray), .int .i64 0, .int .i64 0]) (t := 168) ?hr ?_; (case hd => rfl); (case hg => rfl); (case hr => exact z200_); intro gb132 hg w108 hbox hb; replace HO_131000 := q_ (Kd.R_below z35_ hb); replace HO_131001 := q_ (Kd.R_below z23_ hb); have BK132 := q_ (hbox); have GW132 := q_ ((z146_ : w.heap.size ≤ gb132)); have GE132 := q_ ((z146_ : w.heap.size ≤ gb132)); replace HB := q_ (below_step z12_ hb); have NB123_132 := q_ ((z140_ : gb123 ≠ gb132)); have NB132_123 := q_ ((z141_ : gb132 ≠ gb123)); replace BK123 := q_ (blk_below (g := gb123) (o := .cells #[.slice none 0 0, .slice none 0 0] 95 (0, 0)) z9_ hb); have NB130_132 := q_ ((z142_ : gb130 ≠ gb132)); have NB132_130 := q_ ((z143_ : gb132 ≠ gb130)); replace BK130 := q_ (blk_below (g := gb130) (o := .cells #[u131000, u131001] 95 (0, 0)) z13_ hb); clear hb hbox hg; have hnb109 := NB132_123.out; have hnc109 := NB123_132.out; have hnb110 := NB132_130.out; have hnc110 := NB130_132.out; obtain ⟨hcz111_0, hcz111_1, hcz111_2, hcz111_3, hfz111_0, hfz111_1, hfz111_2, hfz111_3⟩ := cs4_ BK132.out) | ((with_reducible refine gate_store (t := 168) (p := 7) rfl ?_); refine store_event (t := 168) (p := 7) (v := ?vo_w112) (w1 := ((((w108.setCell ⟨gb132, 0, none⟩ (.int .i64 ((rd_T168 l1 x6_1).f0))).setCell ⟨gb132, 1, none⟩ (.string ((rd_T168 l1 x6_1).f1))).setCell ⟨gb132, 2, none⟩ (.int .i64 ((rd_T168 l1 x6_1).f2.f0))).setCell ⟨gb132, 3, none⟩ (.int .i64 ((rd_T168 l1 x6_1).f2.f1)))) ?hg ?ho ?hn ?hr ?_; (case ho => rfl); (case hg => rfl); (case hn => rfl); (case hr => exact z200_); intro w112 hw; have n0_ : Aside0 (Kd.R Kd.string 9 w112 w.heap.size (fun _ => True) u131000 x131000_1) := ⟨(by rw [hw]; exact (by (with_reducible repeat (first | apply Kd.R_alloc | apply Kd.R_drewN | apply Kd.R_drew)); exact Kd.R_mono (Kd.R_far (p := ⟨gb132, 3, none⟩) (Kd.R_far (p := ⟨gb132, 2, none⟩) (Kd.R_far (p := ⟨gb132, 1, none⟩) (Kd.R_far (p := ⟨gb132, 0, none⟩) (Kd.R_types HO_131000.out BK132.out (by decide)) (fun _ hk => hk.2) (.int .i64 ((rd_T168 l1 x6_1).f0))) (fun _ hk => hk.2) (.string ((rd_T168 l1 x6_1).f1))) (fun _ hk => hk.2) (.int .i64 ((rd_T168 l1 x6_1).f2.f0))) (fun _ hk => hk.2) (.int .i64 ((rd_T168 l1 x6_1).f2.f1))) (fun _ hk => trivial)))⟩; have n1_ : Aside0 (Kd.R k166 166 w112 w.heap.size (fun _ => True) u131001 x131001_1) := ⟨(by rw [hw]; exact (by (with_reducible repeat (first | apply Kd.R_alloc | apply Kd.R_drewN | apply Kd.R_drew)); exact Kd.R_mono (Kd.R_far (p := ⟨gb132, 3, none⟩) (Kd.R_far (p := ⟨gb132, 2, none⟩) (Kd.R_far (p := ⟨gb132, 1, none⟩) (Kd.R_far (p := ⟨gb132, 0, none⟩) (Kd.R_types HO_131001.out BK132.out (by decide)) (fun _ hk => hk.2) (.int .i64 ((rd_T168 l1 x6_1).f0))) (fun _ hk => hk.2) (.string ((rd_T168 l1 x6_1).f1))) (fun _ hk => hk.2) (.int .i64 ((rd_T168 l1 x6_1).f2.f0))) (fun _ hk => hk.2) (.int .i64 ((rd_T168 l1 x6_1).f2.f1))) (fun _ hk => trivial)))⟩; have n2_ : Aside0 (w112.heap[gb123]? = some (.cells #[.slice none 0 0, .slice none 0 0] 95 (0, 0))) := ⟨z194_⟩; have n3_ : Aside0 (w112.heap[gb130]? = some (.cells #[u131000, u131001] 95 (0, 0))) := ⟨z195_⟩; have n4_ : Aside0 (w112.heap[gb132]? = some (.cells #[.int .i64 ((rd_T168 l1 x6_1).f0), .string ((rd_T168 l1 x6_1).f1), .int .i64 ((rd_T168 l1 x6_1).f2.f0), .int .i64 ((rd_T168 l1 x6_1).f2.f1)] 168 (0, 0))) := ⟨z197_⟩; have n5_ : Aside0 (Below w.heap.size w w112) := ⟨z196_⟩; clear hw; clear HO_131000; clear HO_131001; clear BK123; clear BK130; clear BK132; clear HB; have HO_131000 := n0_; have HO_131001 := n1_; have BK123 := n2_; have BK130 := n3_; have BK132 := n4_; have HB := n5_; clear n0_ n1_ n2_ n3_ n4_ n5_; obtain ⟨hcz113_0, hcz113_1, hcz113_2, hcz113_3, hfz113_0, hfz113_1, hfz113_2, hfz113_3⟩ := cs4_ BK132.out; have hnb114 := NB130_123.out; have hnc114 := NB123_130.out; obtain ⟨hcz115_0, hcz115_1, hfz115_0, hfz115_1⟩ := cs2_ BK130.out; obtain ⟨Ao116, co116, eo116⟩ := Kd.R_slice HO_131000.out; subst eo116) | ((with_reducible refine gate_callee (f := 106) rfl ?_); refine goesL_ (some 26) rfl rfl Try.func106 (by kernel_rfl) rfl #[.int .i64 ((rd_T168 l1 x6_1).f0), .int .i64 0, .int .i64 (wrap64 ((x131000_1.length : Int) - 1))] rfl z1_ ?_; (with_reducible refine (spec_l1In.calls ((rd_T168 l1 x6_1).f0) 0 (wrap64 ((x131000_1.length : Int) - 1)) false _ A16.out).mono ?_); rintro e w' ⟨rfl, ⟨nd, rfl⟩⟩; refine ⟨_, rfl, ?_⟩; (try (rw [drewN_self w112]; generalize hq_ : World.drewN w112 _ = w112; have n0_ : Aside0 (Kd.R Kd.string 9 w112 w.heap.size (fun _ => True) (.slice Ao116 x131000_1.length co116) x131000_1) := ⟨z188_⟩; have n1_ : Aside0 (Kd.R k166 166 w112 w.heap.size (fun _ => True) u131001 x131001_1) := ⟨z189_⟩; have n2_ : Aside0 (w112.heap[gb123]? = some (.cells #[.slice none 0 0, .slice none 0 0] 95 (0, 0))) := ⟨z193_⟩; have n3_ : Aside0 (w112.heap[gb130]? = some (.cells #[.slice Ao116 x131000_1.length co116, u131001] 95 (0, 0))) := ⟨z190_⟩; have n4_ : Aside0 (w112.heap[gb132]? = some (.cells #[.int .i64 ((rd_T168 l1 x6_1).f0), .string ((rd_T168 l1 x6_1).f1), .int .i64 ((rd_T168 l1 x6_1).f2.f0), .int .i64 ((rd_T168 l1 x6_1).f2.f1)] 168 (0, 0))) := ⟨z191_⟩; have n5_ : Aside0 (Below w.heap.size w w112) := ⟨z192_⟩; clear HO_131000 HO_131001 BK123 BK130 BK132 HB hq_; have HO_131000 := n0_; have HO_131001 := n1_; have BK123 := n2_; have BK130 := n3_; have BK132 := n4_; have HB := n5_; clear n0_ n1_ n2_ n3_ n4_ n5_)); obtain ⟨hcq123_0, hcq123_1, hfq123_0, hfq123_1⟩ := cs2_ BK123.out; obtain ⟨hcq130_0, hcq130_1, hfq130_0, hfq130_1⟩ := cs2_ BK130.out; obtain ⟨hcq132_0, hcq132_1, hcq132_2, hcq132_3, hfq132_0, hfq132_1, hfq132_2, hfq132_3⟩ := cs4_ BK132.out; obtain ⟨Ao117, co117, eo117⟩ := Kd.R_slice HO_131001.out; subst eo117; have p107 : 0 ≤ ((ji105) : Int) := of_decide_eq_true z2_; have q107 : ((ji105) : Int) < ((x131001_1.length : Int) : Int) := of_decide_eq_true z2_; obtain ⟨go107, co107, eo107, gb107, gl107, cl107, HG107⟩ := Kd.R_form HO_131001.out (by omega); (first | cases eo107 | (injection eo107 with ea_ en_ ec_; (first | subst ea_ | (injection ea_ with ea_; subst ea_)); subst ec_; clear en_)); have GB107 := q_ gb107; have GG107 := q_ HG107; clear gb107 gl107 HG107; obtain ⟨ce107, hcl107, hM107, hcc107, hfr107⟩ := Kd.R_elem HO_131001.out z166 ((ji105) : Int) p107 q107; obtain rfl := k166_openM hM107; have hx107_0 : w112.cell? ⟨go107, ((ji105) : Int).toNat * 2, none⟩ = some (.int .i64 ((rd_T166 x131001_1 (ji105)).f0)) := hcc107 0 _ rfl; have hx107_1 : w112.cell? ⟨go107, ((ji105) : Int).toNat * 2 + 1, none⟩ = some (.int .i64 ((rd_T166 x131001_1 (ji105)).f1)) := hcc107 1 _ rfl; have hf107_0 : w112.frozen? ⟨go107, ((ji105) : Int).toNat * 2, none⟩ = false := hfr107 0; have hf107_1 : w112.frozen? ⟨go107, ((ji105) : Int).toNat * 2 + 1, none⟩ = false := hfr107 1; clear hcl107 hcc107 hfr107 hM107; replace p107 := eq_true p107; replace q107 := eq_true q107; have HX118 := q_ (show Kd.R k166 166 w112 w.heap.size (fun _ => True) (.slice (some ⟨go107, 0, none⟩) x131001_1.length co117) x131001_1 from z23_); obtain ⟨ce118, hcl118, hM118, hcc118, hfr118⟩ := Kd.R_elem HX118.out z166 ((ji105) : Int) (of_decide_eq_true z2_) z157_; obtain rfl := k166_openM hM118; have HP118 := Kd.R_seg HX118.out ((ji105) : Int) (of_decide_eq_true z2_) z157_ (seg := [.int .i64 ((rd_T168 l1 x6_1).f2.f0), .int .i64 ((rd_T168 l1 x6_1).f2.f1)]) (j := 0) hcl118 hcc118 (show 2 ≤ 2 from by decide) (x' := (⟨(rd_T168 l1 x6_1).f2.f0, (rd_T168 l1 x6_1).f2.f1⟩ : S166)) (k166_mkM _ _ _ (⟨(rd_T168 l1 x6_1).f2.f0, (rd_T168 l1 x6_1).f2.f1⟩ : S166) ) (fun _ hk => hk); have hx118_0 := hcc118 0 _ rfl; (try simp only [show (k166).sz = 2 from rfl, Nat.mul_one, Nat.add_zero] at hx118_0); have hf118_0 := hfr118 0; (try simp only [show (k166).sz = 2 from rfl, Nat.mul_one, Nat.add_zero] at hf118_0); have hx118_1 := hcc118 1 _ rfl; (try simp only [show (k166).sz = 2 from rfl, Nat.mul_one, Nat.add_zero] at hx118_1); have hf118_1 := hfr118 1; (try simp only [show (k166).sz = 2 from rfl, Nat.mul_one, Nat.add_zero] at hf118_1); clear hcl118 hcc118 hfr118 hM118) | ((with_reducible refine gate_store (t := 166) (p := 58) rfl ?_); refine store_event (t := 166) (p := 58) (v := ?vo_w119) (w1 := ((w112.setCell ⟨go107, ((ji105) : Int).toNat * 2, none⟩ (.int .i64 ((rd_T168 l1 x6_1).f2.f0))).setCell ⟨go107, ((ji105) : Int).toNat * 2 + 1, none⟩ (.int .i64 ((rd_T168 l1 x6_1).f2.f1)))) ?hg ?ho ?hn ?hr ?_; (case ho => rfl); (case hg => rfl); (case hn => rfl); (case hr => exact z200_); intro w119 hw; have hg : w112.grownBy w119 (some go107) := (by rw [hw]; exact HP118.2); have hp_ : Kd.R k166 166 w119 w.heap.size (fun _ => True) (.slice (some ⟨go107, 0, none⟩) x131001_1.length co117) y137 := (by rw [hw, Ny137.out]; exact HP118.1); clear HP118; replace HO_131000 := q_ (Kd.R_over' (v := (.slice (some ⟨go107, 0, none⟩) x131001_1.length co117)) z35_ (Kd.R_typed HO_131001.out) (by decide) hg); replace BK123 := q_ (blk_grown (g := gb123) (o := .cells #[.slice none 0 0, .slice none 0 0] 95 (0, 0)) z9_ hg (Kd.R_ne HO_131001.out BK123.out (by decide))); replace BK130 := q_ (blk_grown (g := gb130) (o := .cells #[.slice Ao116 x131000_1.length co116, .slice (some ⟨go107, 0, none⟩) x131001_1.length co117] 95 (0, 0)) z13_ hg (Kd.R_ne HO_131001.out BK130.out (by decide))); replace BK132 := q_ (blk_grown (g := gb132) (o := .cells #[.int .i64 ((rd_T168 l1 x6_1).f0), .string ((rd_T168 l1 x6_1).f1), .int .i64 ((rd_T168 l1 x6_1).f2.f0), .int .i64 ((rd_T168 l1 x6_1).f2.f1)] 168 (0, 0)) z48_ hg (Kd.R_ne HO_131001.out BK132.out (by decide))); replace HO_131001 := q_ (hp_); replace HB := q_ ((by rw [hw]; exact below_set (below_set (HB.out) GB107.out) GB107.out : Below w.heap.size w w119)); clear hg hw hp_))
         go_roundg k1
         case measure => have := HK1.out; omega
         case rel => exact ⟨(wrap64 (x6_1 + 1)), (x131000_1), (y137), (.slice Ao116 x131000_1.length co116), (.slice (some ⟨go107, 0, none⟩) x131001_1.length co117), z30_, H', ⟨z89_⟩, ⟨z35_⟩, ⟨z23_⟩, ⟨z9_⟩, ⟨z13_⟩, ⟨z17_⟩⟩
        ·rw [if_neg c106] at H
         exact absurd H (by simp)
       ·rw [if_neg c104] at H
        have c104b0 : decide ((wrap64 ((-1) - ((rd_T168 l1 x6_1).f0))) < (x131001_1.length : Int)) = false := decide_eq_false c104
        clear c104
        have H' := q_ H
        clear H
        have p131 : 0 ≤ (x6_1 : Int) := of_decide_eq_true z2_
        have q131 : x6_1 < (l1.length : Int) := of_decide_eq_true z2_
        obtain ⟨ad131, e131, hx131_0, hx131_1, hx131_2, hx131_3⟩ := at_T168 HR1.out x6_1 p131 q131
        cases e131
        replace hx131_0 := up_ HB hx131_0
        replace hx131_1 := up_ HB hx131_1
        replace hx131_2 := up_ HB hx131_2
        replace hx131_3 := up_ HB hx131_3
        replace p131 := eq_true p131
        replace q131 := eq_true q131
        go_wp2_with (first | ((with_reducible refine gate_dst (N := 7) rfl ?_); (try (refine gate_guard (by rfl) ?_; dsimp only)); refine box_event ?hg (N := 7) ?hd (cs := #[.int .i64 0, .string (⟨#[]⟩ : ByteArray), .int .i64 0, .int .i64 0]) (t := 168) ?hr ?_; (case hd => rfl); (case hg => rfl); (case hr => exact z200_); intro gb132 hg w120 hbox hb; replace HO_131000 := q_ (Kd.R_below z35_ hb); replace HO_131001 := q_ (Kd.R_below z23_ hb); have BK132 := q_ (hbox); have GW132 := q_ ((z146_ : w.heap.size ≤ gb132)); have GE132 := q_ ((z146_ : w.heap.size ≤ gb132)); replace HB := q_ (below_step z12_ hb); have NB123_132 := q_ ((z140_ : gb123 ≠ gb132)); have NB132_123 := q_ ((z141_ : gb132 ≠ gb123)); replace BK123 := q_ (blk_below (g := gb123) (o := .cells #[.slice none 0 0, .slice none 0 0] 95 (0, 0)) z9_ hb); have NB130_132 := q_ ((z142_ : gb130 ≠ gb132)); have NB132_130 := q_ ((z143_ : gb132 ≠ gb130)); replace BK130 := q_ (blk_below (g := gb130) (o := .cells #[u131000, u131001] 95 (0, 0)) z13_ hb); clear hb hbox hg; have hnb121 := NB132_123.out; have hnc121 := NB123_132.out; have hnb122 := NB132_130.out; have hnc122 := NB130_132.out; obtain ⟨hcz123_0, hcz123_1, hcz123_2, hcz123_3, hfz123_0, hfz123_1, hfz123_2, hfz123_3⟩ := cs4_ BK132.out; have hnb124 := NB130_123.out; have hnc124 := NB123_130.out; obtain ⟨hcz125_0, hcz125_1, hfz125_0, hfz125_1⟩ := cs2_ BK130.out; obtain ⟨Ao126, co126, eo126⟩ := Kd.R_slice HO_131000.out; subst eo126) | ((with_reducible refine gate_callee (f := 106) rfl ?_); refine goesL_ (some 26) rfl rfl Try.func106 (by kernel_rfl) rfl #[.int .i64 ((rd_T168 l1 x6_1).f0), .int .i64 0, .int .i64 (wrap64 ((x131000_1.length : Int) - 1))] rfl z1_ ?_; (with_reducible refine (spec_l1In.calls ((rd_T168 l1 x6_1).f0) 0 (wrap64 ((x131000_1.length : Int) - 1)) false _ A16.out).mono ?_); rintro e w' ⟨rfl, ⟨nd, rfl⟩⟩; refine ⟨_, rfl, ?_⟩; obtain ⟨Ao127, co127, eo127⟩ := Kd.R_slice HO_131001.out; subst eo127))
        go_roundg k1
        case measure => have := HK1.out; omega
        case rel => exact ⟨(wrap64 (x6_1 + 1)), (x131000_1), (x131001_1), (.slice Ao126 x131000_1.length co126), (.slice Ao127 x131001_1.length co127), z30_, H', ⟨z89_⟩, ⟨by (with_reducible repeat (first | apply Kd.R_alloc | apply Kd.R_drewN | apply Kd.R_drew)); exact Kd.R_mono (Kd.R_far (p := ⟨gb132, 3, none⟩) (Kd.R_far (p := ⟨gb132, 2, none⟩) (Kd.R_far (p := ⟨gb132, 1, none⟩) (Kd.R_far (p := ⟨gb132, 0, none⟩) (Kd.R_types HO_131000.out BK132.out (by decide)) (fun _ hk => hk.2) (.int .i64 ((rd_T168 l1 x6_1).f0))) (fun _ hk => hk.2) (.string ((rd_T168 l1 x6_1).f1))) (fun _ hk => hk.2) (.int .i64 ((rd_T168 l1 x6_1).f2.f0))) (fun _ hk => hk.2) (.int .i64 ((rd_T168 l1 x6_1).f2.f1))) (fun _ hk => trivial)⟩, ⟨by (with_reducible repeat (first | apply Kd.R_alloc | apply Kd.R_drewN | apply Kd.R_drew)); exact Kd.R_mono (Kd.R_far (p := ⟨gb132, 3, none⟩) (Kd.R_far (p := ⟨gb132, 2, none⟩) (Kd.R_far (p := ⟨gb132, 1, none⟩) (Kd.R_far (p := ⟨gb132, 0, none⟩) (Kd.R_types HO_131001.out BK132.out (by decide)) (fun _ hk => hk.2) (.int .i64 ((rd_T168 l1 x6_1).f0))) (fun _ hk => hk.2) (.string ((rd_T168 l1 x6_1).f1))) (fun _ hk => hk.2) (.int .i64 ((rd_T168 l1 x6_1).f2.f0))) (fun _ hk => hk.2) (.int .i64 ((rd_T168 l1 x6_1).f2.f1))) (fun _ hk => trivial)⟩, ⟨z10_⟩, ⟨z11_⟩, ⟨z17_⟩⟩
      ·rw [if_neg c103] at H
       have c103b0 : (((rd_T168 l1 x6_1).f0) == (-1)) = false := beq_eq_false_iff_ne.mpr c103
       have c103b1 : (((rd_T168 l1 x6_1).f0) != (-1)) = true := bne_iff_ne.mpr c103
       by_cases c128 : ((rd_T168 l1 x6_1).f0) = (-2)
       ·rw [if_pos c128] at H
        have c128b0 : (((rd_T168 l1 x6_1).f0) == (-2)) = true := beq_iff_eq.mpr c128
        have c128b1 : (((rd_T168 l1 x6_1).f0) != (-2)) = false := bne_eq_false_iff_eq.mpr c128
        clear c128
        by_cases c129 : (wrap64 ((-1) - ((rd_T168 l1 x6_1).f0))) < (x131001_1.length : Int)
        ·rw [if_pos c129] at H
         have c129b0 : decide ((wrap64 ((-1) - ((rd_T168 l1 x6_1).f0))) < (x131001_1.length : Int)) = true := decide_eq_true c129
         clear c129
         obtain ⟨ji130, hji130⟩ : ∃ j_ : Int, (wrap64 ((-1) - ((rd_T168 l1 x6_1).f0))) = j_ := ⟨_, rfl⟩
         replace H : (if 0 ≤ (ji130) then (spec_Do.l0 k1 l1 (wrap64 (x6_1 + 1)) x131000_1 (x131001_1.set ((ji130) : Int).toNat (⟨(rd_T168 l1 x6_1).f2.f0, (rd_T168 l1 x6_1).f2.f1⟩ : S166))) else (none)) = some (r1, r2) := by first | (rw [hji130] at H; exact H) | (simp only [hji130] at H ⊢; exact H)
         (try rw [hji130] at c129b0)
         (try rw [hji130] at hji23)
         (try rw [hji130] at hji23w)
         (try rw [hji130] at hji58)
         (try rw [hji130] at hji58w)
         (try rw [hji130] at hji105)
         (try rw [hji130] at hji105w)
         (try rw [hji130] at A16)
         have hji130w : (IntKind.i64.wrap ((-1) - ((rd_T168 l1 x6_1).f0))) = ji130 := (i64_w _).trans hji130
         by_cases c131 : 0 ≤ (ji130)
         ·rw [if_pos c131] at H
          have c131b0 : decide (0 ≤ (ji130)) = true := decide_eq_true c131
          clear c131
          obtain ⟨y138, hy_⟩ : ∃ y_ : List (S166), y_ = (x131001_1.set ((ji130) : Int).toNat (⟨(rd_T168 l1 x6_1).f2.f0, (rd_T168 l1 x6_1).f2.f1⟩ : S166)) := ⟨_, rfl⟩
          replace H : (spec_Do.l0 k1 l1 (wrap64 (x6_1 + 1)) x131000_1 y138) = some (r1, r2) := z7_
          have Ny138 := q_ hy_
          clear hy_
          have H' := q_ H
          clear H
          have p131 : 0 ≤ (x6_1 : Int) := of_decide_eq_true z2_
          have q131 : x6_1 < (l1.length : Int) := of_decide_eq_true z2_
          obtain ⟨ad131, e131, hx131_0, hx131_1, hx131_2, hx131_3⟩ := at_T168 HR1.out x6_1 p131 q131
          cases e131
          replace hx131_0 := up_ HB hx131_0
          replace hx131_1 := up_ HB hx131_1
          replace hx131_2 := up_ HB hx131_2
          replace hx131_3 := up_ HB hx131_3
          replace p131 := eq_true p131
          replace q131 := eq_true q131
          go_wp2_with (first | ((with_reducible refine gate_dst (N := 7) rfl ?_); (try (refine gate_guard (by rfl) ?_; dsimp only)); refine box_event ?hg (N := 7) ?hd (cs := #[.int .i64 0, .string (⟨#[]⟩ : ByteArray), .int .i64 0, .int .i64 0]) (t := 168) ?hr ?_; (case hd => rfl); (case hg => rfl); (case hr => exact z200_); intro gb132 hg w133 hbox hb; replace HO_131000 := q_ (Kd.R_below z35_ hb); replace HO_131001 := q_ (Kd.R_below z23_ hb); have BK132 := q_ (hbox); have GW132 := q_ ((z146_ : w.heap.size ≤ gb132)); have GE132 := q_ ((z146_ : w.heap.size ≤ gb132)); replace HB := q_ (below_step z12_ hb); have NB123_132 := q_ ((z140_ : gb123 ≠ gb132)); have NB132_123 := q_ ((z141_ : gb132 ≠ gb123)); replace BK123 := q_ (blk_below (g := gb123) (o := .cells #[.slice none 0 0, .slice none 0 0] 95 (0, 0)) z9_ hb); have NB130_132 := q_ ((z142_ : gb130 ≠ gb132)); have NB132_130 := q_ ((z143_ : gb132 ≠ gb130)); replace BK130 := q_ (blk_below (g := gb130) (o := .cells #[u131000, u131001] 95 (0, 0)) z13_ hb); clear hb hbox hg; have hnb134 := NB132_123.out; have hnc134 := NB123_132.out; have hnb135 := NB132_130.out; have hnc135 := NB130_132.out; obtain ⟨hcz136_0, hcz136_1, hcz136_2, hcz136_3, hfz136_0, hfz136_1, hfz136_2, hfz136_3⟩ := cs4_ BK132.out) | ((with_reducible refine gate_store (t := 168) (p := 7) rfl ?_); refine store_event (t := 168) (p := 7) (v := ?vo_w137) (w1 := ((((w133.setCell ⟨gb132, 0, none⟩ (.int .i64 ((rd_T168 l1 x6_1).f0))).setCell ⟨gb132, 1, none⟩ (.string ((rd_T168 l1 x6_1).f1))).setCell ⟨gb132, 2, none⟩ (.int .i64 ((rd_T168 l1 x6_1).f2.f0))).setCell ⟨gb132, 3, none⟩ (.int .i64 ((rd_T168 l1 x6_1).f2.f1)))) ?hg ?ho ?hn ?hr ?_; (case ho => rfl); (case hg => rfl); (case hn => rfl); (case hr => exact z200_); intro w137 hw; have n0_ : Aside0 (Kd.R Kd.string 9 w137 w.heap.size (fun _ => True) u131000 x131000_1) := ⟨(by rw [hw]; exact (by (with_reducible repeat (first | apply Kd.R_alloc | apply Kd.R_drewN | apply Kd.R_drew)); exact Kd.R_mono (Kd.R_far (p := ⟨gb132, 3, none⟩) (Kd.R_far (p := ⟨gb132, 2, none⟩) (Kd.R_far (p := ⟨gb132, 1, none⟩) (Kd.R_far (p := ⟨gb132, 0, none⟩) (Kd.R_types HO_131000.out BK132.out (by decide)) (fun _ hk => hk.2) (.int .i64 ((rd_T168 l1 x6_1).f0))) (fun _ hk => hk.2) (.string ((rd_T168 l1 x6_1).f1))) (fun _ hk => hk.2) (.int .i64 ((rd_T168 l1 x6_1).f2.f0))) (fun _ hk => hk.2) (.int .i64 ((rd_T168 l1 x6_1).f2.f1))) (fun _ hk => trivial)))⟩; have n1_ : Aside0 (Kd.R k166 166 w137 w.heap.size (fun _ => True) u131001 x131001_1) := ⟨(by rw [hw]; exact (by (with_reducible repeat (first | apply Kd.R_alloc | apply Kd.R_drewN | apply Kd.R_drew)); exact Kd.R_mono (Kd.R_far (p := ⟨gb132, 3, none⟩) (Kd.R_far (p := ⟨gb132, 2, none⟩) (Kd.R_far (p := ⟨gb132, 1, none⟩) (Kd.R_far (p := ⟨gb132, 0, none⟩) (Kd.R_types HO_131001.out BK132.out (by decide)) (fun _ hk => hk.2) (.int .i64 ((rd_T168 l1 x6_1).f0))) (fun _ hk => hk.2) (.string ((rd_T168 l1 x6_1).f1))) (fun _ hk => hk.2) (.int .i64 ((rd_T168 l1 x6_1).f2.f0))) (fun _ hk => hk.2) (.int .i64 ((rd_T168 l1 x6_1).f2.f1))) (fun _ hk => trivial)))⟩; have n2_ : Aside0 (w137.heap[gb123]? = some (.cells #[.slice none 0 0, .slice none 0 0] 95 (0, 0))) := ⟨z194_⟩; have n3_ : Aside0 (w137.heap[gb130]? = some (.cells #[u131000, u131001] 95 (0, 0))) := ⟨z195_⟩; have n4_ : Aside0 (w137.heap[gb132]? = some (.cells #[.int .i64 ((rd_T168 l1 x6_1).f0), .string ((rd_T168 l1 x6_1).f1), .int .i64 ((rd_T168 l1 x6_1).f2.f0), .int .i64 ((rd_T168 l1 x6_1).f2.f1)] 168 (0, 0))) := ⟨z197_⟩; have n5_ : Aside0 (Below w.heap.size w w137) := ⟨z196_⟩; clear hw; clear HO_131000; clear HO_131001; clear BK123; clear BK130; clear BK132; clear HB; have HO_131000 := n0_; have HO_131001 := n1_; have BK123 := n2_; have BK130 := n3_; have BK132 := n4_; have HB := n5_; clear n0_ n1_ n2_ n3_ n4_ n5_; obtain ⟨hcz138_0, hcz138_1, hcz138_2, hcz138_3, hfz138_0, hfz138_1, hfz138_2, hfz138_3⟩ := cs4_ BK132.out; have hnb139 := NB130_123.out; have hnc139 := NB123_130.out; obtain ⟨hcz140_0, hcz140_1, hfz140_0, hfz140_1⟩ := cs2_ BK130.out; obtain ⟨Ao141, co141, eo141⟩ := Kd.R_slice HO_131000.out; subst eo141) | ((with_reducible refine gate_callee (f := 106) rfl ?_); refine goesL_ (some 26) rfl rfl Try.func106 (by kernel_rfl) rfl #[.int .i64 ((rd_T168 l1 x6_1).f0), .int .i64 0, .int .i64 (wrap64 ((x131000_1.length : Int) - 1))] rfl z1_ ?_; (with_reducible refine (spec_l1In.calls ((rd_T168 l1 x6_1).f0) 0 (wrap64 ((x131000_1.length : Int) - 1)) false _ A16.out).mono ?_); rintro e w' ⟨rfl, ⟨nd, rfl⟩⟩; refine ⟨_, rfl, ?_⟩; (try (rw [drewN_self w137]; generalize hq_ : World.drewN w137 _ = w137; have n0_ : Aside0 (Kd.R Kd.string 9 w137 w.heap.size (fun _ => True) (.slice Ao141 x131000_1.length co141) x131000_1) := ⟨z188_⟩; have n1_ : Aside0 (Kd.R k166 166 w137 w.heap.size (fun _ => True) u131001 x131001_1) := ⟨z189_⟩; have n2_ : Aside0 (w137.heap[gb123]? = some (.cells #[.slice none 0 0, .slice none 0 0] 95 (0, 0))) := ⟨z193_⟩; have n3_ : Aside0 (w137.heap[gb130]? = some (.cells #[.slice Ao141 x131000_1.length co141, u131001] 95 (0, 0))) := ⟨z190_⟩; have n4_ : Aside0 (w137.heap[gb132]? = some (.cells #[.int .i64 ((rd_T168 l1 x6_1).f0), .string ((rd_T168 l1 x6_1).f1), .int .i64 ((rd_T168 l1 x6_1).f2.f0), .int .i64 ((rd_T168 l1 x6_1).f2.f1)] 168 (0, 0))) := ⟨z191_⟩; have n5_ : Aside0 (Below w.heap.size w w137) := ⟨z192_⟩; clear HO_131000 HO_131001 BK123 BK130 BK132 HB hq_; have HO_131000 := n0_; have HO_131001 := n1_; have BK123 := n2_; have BK130 := n3_; have BK132 := n4_; have HB := n5_; clear n0_ n1_ n2_ n3_ n4_ n5_)); obtain ⟨hcq123_0, hcq123_1, hfq123_0, hfq123_1⟩ := cs2_ BK123.out; obtain ⟨hcq130_0, hcq130_1, hfq130_0, hfq130_1⟩ := cs2_ BK130.out; obtain ⟨hcq132_0, hcq132_1, hcq132_2, hcq132_3, hfq132_0, hfq132_1, hfq132_2, hfq132_3⟩ := cs4_ BK132.out; obtain ⟨Ao142, co142, eo142⟩ := Kd.R_slice HO_131001.out; subst eo142; have p132 : 0 ≤ ((ji130) : Int) := of_decide_eq_true z2_; have q132 : ((ji130) : Int) < ((x131001_1.length : Int) : Int) := of_decide_eq_true z2_; obtain ⟨go132, co132, eo132, gb132, gl132, cl132, HG132⟩ := Kd.R_form HO_131001.out (by omega); (first | cases eo132 | (injection eo132 with ea_ en_ ec_; (first | subst ea_ | (injection ea_ with ea_; subst ea_)); subst ec_; clear en_)); have GB132 := q_ gb132; have GG132 := q_ HG132; clear gb132 gl132 HG132; obtain ⟨ce132, hcl132, hM132, hcc132, hfr132⟩ := Kd.R_elem HO_131001.out z166 ((ji130) : Int) p132 q132; obtain rfl := k166_openM hM132; have hx132_0 : w137.cell? ⟨go132, ((ji130) : Int).toNat * 2, none⟩ = some (.int .i64 ((rd_T166 x131001_1 (ji130)).f0)) := hcc132 0 _ rfl; have hx132_1 : w137.cell? ⟨go132, ((ji130) : Int).toNat * 2 + 1, none⟩ = some (.int .i64 ((rd_T166 x131001_1 (ji130)).f1)) := hcc132 1 _ rfl; have hf132_0 : w137.frozen? ⟨go132, ((ji130) : Int).toNat * 2, none⟩ = false := hfr132 0; have hf132_1 : w137.frozen? ⟨go132, ((ji130) : Int).toNat * 2 + 1, none⟩ = false := hfr132 1; clear hcl132 hcc132 hfr132 hM132; replace p132 := eq_true p132; replace q132 := eq_true q132; have HX143 := q_ (show Kd.R k166 166 w137 w.heap.size (fun _ => True) (.slice (some ⟨go132, 0, none⟩) x131001_1.length co142) x131001_1 from z23_); obtain ⟨ce143, hcl143, hM143, hcc143, hfr143⟩ := Kd.R_elem HX143.out z166 ((ji130) : Int) (of_decide_eq_true z2_) z158_; obtain rfl := k166_openM hM143; have HP143 := Kd.R_seg HX143.out ((ji130) : Int) (of_decide_eq_true z2_) z158_ (seg := [.int .i64 ((rd_T168 l1 x6_1).f2.f0), .int .i64 ((rd_T168 l1 x6_1).f2.f1)]) (j := 0) hcl143 hcc143 (show 2 ≤ 2 from by decide) (x' := (⟨(rd_T168 l1 x6_1).f2.f0, (rd_T168 l1 x6_1).f2.f1⟩ : S166)) (k166_mkM _ _ _ (⟨(rd_T168 l1 x6_1).f2.f0, (rd_T168 l1 x6_1).f2.f1⟩ : S166) ) (fun _ hk => hk); have hx143_0 := hcc143 0 _ rfl; (try simp only [show (k166).sz = 2 from rfl, Nat.mul_one, Nat.add_zero] at hx143_0); have hf143_0 := hfr143 0; (try simp only [show (k166).sz = 2 from rfl, Nat.mul_one, Nat.add_zero] at hf143_0); have hx143_1 := hcc143 1 _ rfl; (try simp only [show (k166).sz = 2 from rfl, Nat.mul_one, Nat.add_zero] at hx143_1); have hf143_1 := hfr143 1; (try simp only [show (k166).sz = 2 from rfl, Nat.mul_one, Nat.add_zero] at hf143_1); clear hcl143 hcc143 hfr143 hM143) | ((with_reducible refine gate_store (t := 166) (p := 58) rfl ?_); refine store_event (t := 166) (p := 58) (v := ?vo_w144) (w1 := ((w137.setCell ⟨go132, ((ji130) : Int).toNat * 2, none⟩ (.int .i64 ((rd_T168 l1 x6_1).f2.f0))).setCell ⟨go132, ((ji130) : Int).toNat * 2 + 1, none⟩ (.int .i64 ((rd_T168 l1 x6_1).f2.f1)))) ?hg ?ho ?hn ?hr ?_; (case ho => rfl); (case hg => rfl); (case hn => rfl); (case hr => exact z200_); intro w144 hw; have hg : w137.grownBy w144 (some go132) := (by rw [hw]; exact HP143.2); have hp_ : Kd.R k166 166 w144 w.heap.size (fun _ => True) (.slice (some ⟨go132, 0, none⟩) x131001_1.length co142) y138 := (by rw [hw, Ny138.out]; exact HP143.1); clear HP143; replace HO_131000 := q_ (Kd.R_over' (v := (.slice (some ⟨go132, 0, none⟩) x131001_1.length co142)) z35_ (Kd.R_typed HO_131001.out) (by decide) hg); replace BK123 := q_ (blk_grown (g := gb123) (o := .cells #[.slice none 0 0, .slice none 0 0] 95 (0, 0)) z9_ hg (Kd.R_ne HO_131001.out BK123.out (by decide))); replace BK130 := q_ (blk_grown (g := gb130) (o := .cells #[.slice Ao141 x131000_1.length co141, .slice (some ⟨go132, 0, none⟩) x131001_1.length co142] 95 (0, 0)) z13_ hg (Kd.R_ne HO_131001.out BK130.out (by decide))); replace BK132 := q_ (blk_grown (g := gb132) (o := .cells #[.int .i64 ((rd_T168 l1 x6_1).f0), .string ((rd_T168 l1 x6_1).f1), .int .i64 ((rd_T168 l1 x6_1).f2.f0), .int .i64 ((rd_T168 l1 x6_1).f2.f1)] 168 (0, 0)) z48_ hg (Kd.R_ne HO_131001.out BK132.out (by decide))); replace HO_131001 := q_ (hp_); replace HB := q_ ((by rw [hw]; exact below_set (below_set (HB.out) GB132.out) GB132.out : Below w.heap.size w w144)); clear hg hw hp_))
          go_roundg k1
          case measure => have := HK1.out; omega
          case rel => exact ⟨(wrap64 (x6_1 + 1)), (x131000_1), (y138), (.slice Ao141 x131000_1.length co141), (.slice (some ⟨go132, 0, none⟩) x131001_1.length co142), z30_, H', ⟨z89_⟩, ⟨z35_⟩, ⟨z23_⟩, ⟨z9_⟩, ⟨z13_⟩, ⟨z17_⟩⟩
         ·rw [if_neg c131] at H
          exact absurd H (by simp)
        ·rw [if_neg c129] at H
         have c129b0 : decide ((wrap64 ((-1) - ((rd_T168 l1 x6_1).f0))) < (x131001_1.length : Int)) = false := decide_eq_false c129
         clear c129
         have H' := q_ H
         clear H
         have p131 : 0 ≤ (x6_1 : Int) := of_decide_eq_true z2_
         have q131 : x6_1 < (l1.length : Int) := of_decide_eq_true z2_
         obtain ⟨ad131, e131, hx131_0, hx131_1, hx131_2, hx131_3⟩ := at_T168 HR1.out x6_1 p131 q131
         cases e131
         replace hx131_0 := up_ HB hx131_0
         replace hx131_1 := up_ HB hx131_1
         replace hx131_2 := up_ HB hx131_2
         replace hx131_3 := up_ HB hx131_3
         replace p131 := eq_true p131
         replace q131 := eq_true q131
         go_wp2_with (first | ((with_reducible refine gate_dst (N := 7) rfl ?_); (try (refine gate_guard (by rfl) ?_; dsimp only)); refine box_event ?hg (N := 7) ?hd (cs := #[.int .i64 0, .string (⟨#[]⟩ : ByteArray), .int .i64 0, .int .i64 0]) (t := 168) ?hr ?_; (case hd => rfl); (case hg => rfl); (case hr => exact z200_); intro gb132 hg w145 hbox hb; replace HO_131000 := q_ (Kd.R_below z35_ hb); replace HO_131001 := q_ (Kd.R_below z23_ hb); have BK132 := q_ (hbox); have GW132 := q_ ((z146_ : w.heap.size ≤ gb132)); have GE132 := q_ ((z146_ : w.heap.size ≤ gb132)); replace HB := q_ (below_step z12_ hb); have NB123_132 := q_ ((z140_ : gb123 ≠ gb132)); have NB132_123 := q_ ((z141_ : gb132 ≠ gb123)); replace BK123 := q_ (blk_below (g := gb123) (o := .cells #[.slice none 0 0, .slice none 0 0] 95 (0, 0)) z9_ hb); have NB130_132 := q_ ((z142_ : gb130 ≠ gb132)); have NB132_130 := q_ ((z143_ : gb132 ≠ gb130)); replace BK130 := q_ (blk_below (g := gb130) (o := .cells #[u131000, u131001] 95 (0, 0)) z13_ hb); clear hb hbox hg; have hnb146 := NB132_123.out; have hnc146 := NB123_132.out; have hnb147 := NB132_130.out; have hnc147 := NB130_132.out; obtain ⟨hcz148_0, hcz148_1, hcz148_2, hcz148_3, hfz148_0, hfz148_1, hfz148_2, hfz148_3⟩ := cs4_ BK132.out; have hnb149 := NB130_123.out; have hnc149 := NB123_130.out; obtain ⟨hcz150_0, hcz150_1, hfz150_0, hfz150_1⟩ := cs2_ BK130.out; obtain ⟨Ao151, co151, eo151⟩ := Kd.R_slice HO_131000.out; subst eo151) | ((with_reducible refine gate_callee (f := 106) rfl ?_); refine goesL_ (some 26) rfl rfl Try.func106 (by kernel_rfl) rfl #[.int .i64 ((rd_T168 l1 x6_1).f0), .int .i64 0, .int .i64 (wrap64 ((x131000_1.length : Int) - 1))] rfl z1_ ?_; (with_reducible refine (spec_l1In.calls ((rd_T168 l1 x6_1).f0) 0 (wrap64 ((x131000_1.length : Int) - 1)) false _ A16.out).mono ?_); rintro e w' ⟨rfl, ⟨nd, rfl⟩⟩; refine ⟨_, rfl, ?_⟩; obtain ⟨Ao152, co152, eo152⟩ := Kd.R_slice HO_131001.out; subst eo152))
         go_roundg k1
         case measure => have := HK1.out; omega
         case rel => exact ⟨(wrap64 (x6_1 + 1)), (x131000_1), (x131001_1), (.slice Ao151 x131000_1.length co151), (.slice Ao152 x131001_1.length co152), z30_, H', ⟨z89_⟩, ⟨by (with_reducible repeat (first | apply Kd.R_alloc | apply Kd.R_drewN | apply Kd.R_drew)); exact Kd.R_mono (Kd.R_far (p := ⟨gb132, 3, none⟩) (Kd.R_far (p := ⟨gb132, 2, none⟩) (Kd.R_far (p := ⟨gb132, 1, none⟩) (Kd.R_far (p := ⟨gb132, 0, none⟩) (Kd.R_types HO_131000.out BK132.out (by decide)) (fun _ hk => hk.2) (.int .i64 ((rd_T168 l1 x6_1).f0))) (fun _ hk => hk.2) (.string ((rd_T168 l1 x6_1).f1))) (fun _ hk => hk.2) (.int .i64 ((rd_T168 l1 x6_1).f2.f0))) (fun _ hk => hk.2) (.int .i64 ((rd_T168 l1 x6_1).f2.f1))) (fun _ hk => trivial)⟩, ⟨by (with_reducible repeat (first | apply Kd.R_alloc | apply Kd.R_drewN | apply Kd.R_drew)); exact Kd.R_mono (Kd.R_far (p := ⟨gb132, 3, none⟩) (Kd.R_far (p := ⟨gb132, 2, none⟩) (Kd.R_far (p := ⟨gb132, 1, none⟩) (Kd.R_far (p := ⟨gb132, 0, none⟩) (Kd.R_types HO_131001.out BK132.out (by decide)) (fun _ hk => hk.2) (.int .i64 ((rd_T168 l1 x6_1).f0))) (fun _ hk => hk.2) (.string ((rd_T168 l1 x6_1).f1))) (fun _ hk => hk.2) (.int .i64 ((rd_T168 l1 x6_1).f2.f0))) (fun _ hk => hk.2) (.int .i64 ((rd_T168 l1 x6_1).f2.f1))) (fun _ hk => trivial)⟩, ⟨z10_⟩, ⟨z11_⟩, ⟨z17_⟩⟩
       ·rw [if_neg c128] at H
        have c128b0 : (((rd_T168 l1 x6_1).f0) == (-2)) = false := beq_eq_false_iff_ne.mpr c128
        have c128b1 : (((rd_T168 l1 x6_1).f0) != (-2)) = true := bne_iff_ne.mpr c128
        have H' := q_ H
        clear H
        have p131 : 0 ≤ (x6_1 : Int) := of_decide_eq_true z2_
        have q131 : x6_1 < (l1.length : Int) := of_decide_eq_true z2_
        obtain ⟨ad131, e131, hx131_0, hx131_1, hx131_2, hx131_3⟩ := at_T168 HR1.out x6_1 p131 q131
        cases e131
        replace hx131_0 := up_ HB hx131_0
        replace hx131_1 := up_ HB hx131_1
        replace hx131_2 := up_ HB hx131_2
        replace hx131_3 := up_ HB hx131_3
        replace p131 := eq_true p131
        replace q131 := eq_true q131
        go_wp2_with (first | ((with_reducible refine gate_dst (N := 7) rfl ?_); (try (refine gate_guard (by rfl) ?_; dsimp only)); refine box_event ?hg (N := 7) ?hd (cs := #[.int .i64 0, .string (⟨#[]⟩ : ByteArray), .int .i64 0, .int .i64 0]) (t := 168) ?hr ?_; (case hd => rfl); (case hg => rfl); (case hr => exact z200_); intro gb132 hg w153 hbox hb; replace HO_131000 := q_ (Kd.R_below z35_ hb); replace HO_131001 := q_ (Kd.R_below z23_ hb); have BK132 := q_ (hbox); have GW132 := q_ ((z146_ : w.heap.size ≤ gb132)); have GE132 := q_ ((z146_ : w.heap.size ≤ gb132)); replace HB := q_ (below_step z12_ hb); have NB123_132 := q_ ((z140_ : gb123 ≠ gb132)); have NB132_123 := q_ ((z141_ : gb132 ≠ gb123)); replace BK123 := q_ (blk_below (g := gb123) (o := .cells #[.slice none 0 0, .slice none 0 0] 95 (0, 0)) z9_ hb); have NB130_132 := q_ ((z142_ : gb130 ≠ gb132)); have NB132_130 := q_ ((z143_ : gb132 ≠ gb130)); replace BK130 := q_ (blk_below (g := gb130) (o := .cells #[u131000, u131001] 95 (0, 0)) z13_ hb); clear hb hbox hg; have hnb154 := NB132_123.out; have hnc154 := NB123_132.out; have hnb155 := NB132_130.out; have hnc155 := NB130_132.out; obtain ⟨hcz156_0, hcz156_1, hcz156_2, hcz156_3, hfz156_0, hfz156_1, hfz156_2, hfz156_3⟩ := cs4_ BK132.out; have hnb157 := NB130_123.out; have hnc157 := NB123_130.out; obtain ⟨hcz158_0, hcz158_1, hfz158_0, hfz158_1⟩ := cs2_ BK130.out; obtain ⟨Ao159, co159, eo159⟩ := Kd.R_slice HO_131000.out; subst eo159) | ((with_reducible refine gate_callee (f := 106) rfl ?_); refine goesL_ (some 26) rfl rfl Try.func106 (by kernel_rfl) rfl #[.int .i64 ((rd_T168 l1 x6_1).f0), .int .i64 0, .int .i64 (wrap64 ((x131000_1.length : Int) - 1))] rfl z1_ ?_; (with_reducible refine (spec_l1In.calls ((rd_T168 l1 x6_1).f0) 0 (wrap64 ((x131000_1.length : Int) - 1)) false _ A16.out).mono ?_); rintro e w' ⟨rfl, ⟨nd, rfl⟩⟩; refine ⟨_, rfl, ?_⟩))
        go_roundg k1
        case measure => have := HK1.out; omega
        case rel => exact ⟨(wrap64 (x6_1 + 1)), (x131000_1), (x131001_1), (.slice Ao159 x131000_1.length co159), (u131001), z30_, H', ⟨z89_⟩, ⟨by (with_reducible repeat (first | apply Kd.R_alloc | apply Kd.R_drewN | apply Kd.R_drew)); exact Kd.R_mono (Kd.R_far (p := ⟨gb132, 3, none⟩) (Kd.R_far (p := ⟨gb132, 2, none⟩) (Kd.R_far (p := ⟨gb132, 1, none⟩) (Kd.R_far (p := ⟨gb132, 0, none⟩) (Kd.R_types HO_131000.out BK132.out (by decide)) (fun _ hk => hk.2) (.int .i64 ((rd_T168 l1 x6_1).f0))) (fun _ hk => hk.2) (.string ((rd_T168 l1 x6_1).f1))) (fun _ hk => hk.2) (.int .i64 ((rd_T168 l1 x6_1).f2.f0))) (fun _ hk => hk.2) (.int .i64 ((rd_T168 l1 x6_1).f2.f1))) (fun _ hk => trivial)⟩, ⟨by (with_reducible repeat (first | apply Kd.R_alloc | apply Kd.R_drewN | apply Kd.R_drew)); exact Kd.R_mono (Kd.R_far (p := ⟨gb132, 3, none⟩) (Kd.R_far (p := ⟨gb132, 2, none⟩) (Kd.R_far (p := ⟨gb132, 1, none⟩) (Kd.R_far (p := ⟨gb132, 0, none⟩) (Kd.R_types HO_131001.out BK132.out (by decide)) (fun _ hk => hk.2) (.int .i64 ((rd_T168 l1 x6_1).f0))) (fun _ hk => hk.2) (.string ((rd_T168 l1 x6_1).f1))) (fun _ hk => hk.2) (.int .i64 ((rd_T168 l1 x6_1).f2.f0))) (fun _ hk => hk.2) (.int .i64 ((rd_T168 l1 x6_1).f2.f1))) (fun _ hk => trivial)⟩, ⟨z10_⟩, ⟨z11_⟩, ⟨z17_⟩⟩
    ·rw [if_neg c15] at H
     exact absurd H (by simp)
   ·rw [if_neg c14] at H
    have c14b0 : decide (x6_1 < (l1.length : Int)) = false := decide_eq_false c14
    clear c14
    simp only [Option.some.injEq, Prod.mk.injEq] at H
    obtain ⟨rfl, rfl⟩ := H
    have hnb160 := NB130_123.out
    have hnc160 := NB123_130.out
    obtain ⟨hcz161_0, hcz161_1, hfz161_0, hfz161_1⟩ := cs2_ BK130.out
    obtain ⟨Ao162, co162, eo162⟩ := Kd.R_slice HO_131000.out
    subst eo162
    obtain ⟨hcz163_0, hcz163_1, hfz163_0, hfz163_1⟩ := cs2_ BK123.out
    obtain ⟨Ao164, co164, eo164⟩ := Kd.R_slice HO_131001.out
    subst eo164
    go_wp2
    refine bodyPost_ret (results_cell_row rfl _ _ gb123 95 #[.slice Ao162 x131000_1.length co162, .slice Ao164 x131001_1.length co164] (0, 0) _ rfl (by (with_reducible repeat (first | refine blk_drewN ?_ _ | refine blk_drew ?_ | refine blk_alloc ?_ _)); refine blk_put (cs := #[.slice Ao162 x131000_1.length co162, .slice none 0 0]) ?_ 1 _ rfl; (with_reducible repeat (first | refine blk_drewN ?_ _ | refine blk_drew ?_ | refine blk_alloc ?_ _)); refine blk_put (cs := #[.slice none 0 0, .slice none 0 0]) ?_ 0 _ rfl; (with_reducible repeat (first | refine blk_drewN ?_ _ | refine blk_drew ?_ | refine blk_alloc ?_ _)); exact BK123.out) Try.underlying95 rfl (by kernel_rfl)) rfl ?_
    exact ⟨_, _, z16_, by (with_reducible repeat (first | apply Kd.R_alloc | apply Kd.R_drewN | apply Kd.R_drew)); exact Kd.R_mono (Kd.R_far (p := ⟨gb123, 1, none⟩) (Kd.R_far (p := ⟨gb123, 0, none⟩) (Kd.R_types HO_131000.out BK123.out (by decide)) (fun _ hk => hk.2) (.slice Ao162 x131000_1.length co162)) (fun _ hk => hk.2) (.slice Ao164 x131001_1.length co164)) (fun _ hk => trivial), by (with_reducible repeat (first | apply Kd.R_alloc | apply Kd.R_drewN | apply Kd.R_drew)); exact Kd.R_mono (Kd.R_far (p := ⟨gb123, 1, none⟩) (Kd.R_far (p := ⟨gb123, 0, none⟩) (Kd.R_types HO_131001.out BK123.out (by decide)) (fun _ hk => hk.2) (.slice Ao162 x131000_1.length co162)) (fun _ hk => hk.2) (.slice Ao164 x131001_1.length co164)) (fun _ hk => trivial), z12_⟩

/-! ### laws_toStringS: function 146 -/
def laws_toStringS.l0 : Nat → List ByteArray → List ByteArray → Int → Option (List ByteArray)
 | 0, _, _, _ => none
 | k + 1, x0, x3, x4 => if x4 < (x0.length : Int) then (if 0 ≤ x4 then (if x4 < (x3.length : Int) then (laws_toStringS.l0 k x0 (x3.set (x4 : Int).toNat (rdOf ByteArray.empty x0 x4)) (wrap64 (x4 + 1))) else (none)) else (none)) else (some x3)
def laws_toStringS.f (k : Nat) (l0 : List ByteArray) : Option (List ByteArray) := if 0 ≤ (l0.length : Int) then (if ((l0.length : Int) : Int).toNat ≤ 17592186044416 then (laws_toStringS.l0 k l0 (List.replicate ((l0.length : Int) : Int).toNat (⟨#[]⟩ : ByteArray)) 0) else (none)) else (none)
theorem laws_toStringS.mono_l : ∀ k, (∀ y0 y1 y2, LeO (laws_toStringS.l0 k y0 y1 y2) (laws_toStringS.l0 (k + 1) y0 y1 y2))
 | 0 => fun _ _ _ r h => by simp [laws_toStringS.l0] at h
 | k + 1 => by
  have ih0 := laws_toStringS.mono_l k
  ·intro y0 y1 y2
   unfold laws_toStringS.l0
   repeat' first
   | (with_reducible exact ih0 _ _ _)
   | (with_reducible exact LeO.refl _)
   | (with_reducible exact LeO.none _)
   | (with_reducible refine LeO.ite ?_ ?_)
   | (with_reducible refine LeO.bind ?_ (fun _ => ?_))
   | exact ih0 _ _ _
   | exact LeO.none _
   | refine LeO.ite ?_ ?_
   | refine LeO.bind ?_ (fun _ => ?_)
theorem laws_toStringS.mono : ∀ a0 k, LeO (laws_toStringS.f k a0) (laws_toStringS.f (k + 1) a0) := by
 intro a0 k
 have ih0 := laws_toStringS.mono_l k
 unfold laws_toStringS.f
 repeat' first
   | (with_reducible exact ih0 _ _ _)
   | (with_reducible exact LeO.refl _)
   | (with_reducible exact LeO.none _)
   | (with_reducible refine LeO.ite ?_ ?_)
   | (with_reducible refine LeO.bind ?_ (fun _ => ?_))
   | exact ih0 _ _ _
   | exact LeO.none _
   | refine LeO.ite ?_ ?_
   | refine LeO.bind ?_ (fun _ => ?_)
set_option maxHeartbeats 8000000 in
set_option maxRecDepth 100000 in
theorem laws_toStringS.calls (k : Nat) (A0 : Option Addr) (c0 : Nat) (l0 : List ByteArray) (r : List ByteArray) (w : World) (hr0 : Kd.C Kd.string w A0 l0.length l0) (hc0 : l0.length ≤ c0) (h : laws_toStringS.f k l0 = some r) :
  Calls Try.prog 146 #[.slice A0 l0.length c0] w fun e w' => ∃ v0_ : Value, e = .returned (v0_) ∧ Kd.R Kd.string 9 w' w.heap.size (fun _ => True) v0_ r ∧ Below w.heap.size w w' := by
 have HR0 := q_ hr0
 have HC0 := q_ hc0
 clear hr0 hc0
 have HB := q_ (Below.refl w.heap.size w)
 have H : (if 0 ≤ (l0.length : Int) then (if ((l0.length : Int) : Int).toNat ≤ 17592186044416 then (laws_toStringS.l0 k l0 (List.replicate ((l0.length : Int) : Int).toNat (⟨#[]⟩ : ByteArray)) 0) else (none)) else (none)) = some r := h
 clear h
 by_cases c2 : 0 ≤ (l0.length : Int)
 ·rw [if_pos c2] at H
  have c2b0 := eq_true c2
  have c2b1 : decide (0 ≤ (l0.length : Int)) = true := decide_eq_true c2
  clear c2
  by_cases c3 : ((l0.length : Int) : Int).toNat ≤ 17592186044416
  ·rw [if_pos c3] at H
   have c3b0 := eq_true c3
   have c3b1 : decide (((l0.length : Int) : Int).toNat ≤ 17592186044416) = true := decide_eq_true c3
   clear c3
   obtain ⟨y139, hy_⟩ : ∃ y_ : List ByteArray, y_ = (List.replicate ((l0.length : Int) : Int).toNat (⟨#[]⟩ : ByteArray)) := ⟨_, rfl⟩
   replace H : (laws_toStringS.l0 k l0 y139 0) = some r := z7_
   have Ny139 := q_ hy_
   clear hy_
   have H' := q_ H
   clear H
   go_enter Try.func146, Try.ntmps146
   go_wp2_with (first | ((with_reducible refine gate_dst (N := 7) rfl ?_); refine Kd.R_make Kd.string _ 9 rfl (N := 7) rfl 86 _ _ rfl (l0.length : Int) rfl rfl Try.underlying86 (.string ⟨#[]⟩) 16 info9 rfl (by decide) (by omega) (⟨#[]⟩ : ByteArray) (ok := fun _ => True) (okp := fun _ => True) rfl (fun _ hk => hk) trivial (of_decide_eq_true z2_) (Nat.le_trans (Nat.mul_le_mul_right _ (of_decide_eq_true z2_ : (l0.length : Int).toNat ≤ 17592186044416)) (by omega)) (Below.refl _ _) (Nat.le_refl _) ?_; intro v140 w4 ho5 hb hg_ hnew_; clear hg_ hnew_; (first | rw [← Ny139.out] at ho5 | (simp only [Int.reduceToNat] at ho5; rw [← Ny139.out] at ho5)); have HO141 := q_ (Kd.R_lower ho5 (below_size z0_)); replace HB := q_ (below_step z0_ hb); clear hb ho5))
   go_loopg [4] k (fun kq v4 w' => ∃ (x3_1 : List ByteArray) (x4_1 : Int), v4 = .int .i64 x4_1 ∧ Aside0 (laws_toStringS.l0 kq l0 x3_1 x4_1 = some r) ∧ Aside0 (kq ≤ k) ∧ Aside0 (Kd.R Kd.string 9 w' w.heap.size (fun _ => True) v140 x3_1) ∧ Aside0 (Below w.heap.size w w'))
   case atStart => exact ⟨(y139), (0), z30_, H', ⟨Nat.le_refl _⟩, ⟨by (with_reducible repeat (first | apply Kd.R_alloc | apply Kd.R_drewN | apply Kd.R_drew)); exact HO141.out⟩, ⟨z0_⟩⟩
   case round =>
    clear H'
    try clear c1
    try clear c2
    try clear c2b0
    try clear c2b1
    try clear p2
    try clear c3
    try clear c3b0
    try clear c3b1
    obtain ⟨x3_1, x4_1, rfl, HA, HK1, HO_3, HB⟩ := hrel
    cases gk with
    | zero => exact absurd HA.out (by simp [laws_toStringS.l0])
    | succ k1 =>
     have H := HA.out
     clear HA
     simp only [laws_toStringS.l0] at H
     by_cases c6 : x4_1 < (l0.length : Int)
     ·rw [if_pos c6] at H
      have c6b0 : decide (x4_1 < (l0.length : Int)) = true := decide_eq_true c6
      clear c6
      by_cases c7 : 0 ≤ x4_1
      ·rw [if_pos c7] at H
       have c7b0 : decide (0 ≤ x4_1) = true := decide_eq_true c7
       clear c7
       by_cases c8 : x4_1 < (x3_1.length : Int)
       ·rw [if_pos c8] at H
        have c8b0 : decide (x4_1 < (x3_1.length : Int)) = true := decide_eq_true c8
        clear c8
        obtain ⟨y143, hy_⟩ : ∃ y_ : List ByteArray, y_ = (x3_1.set (x4_1 : Int).toNat (rdOf ByteArray.empty l0 x4_1)) := ⟨_, rfl⟩
        replace H : (laws_toStringS.l0 k1 l0 y143 (wrap64 (x4_1 + 1))) = some r := z7_
        have Ny143 := q_ hy_
        clear hy_
        have H' := q_ H
        clear H
        have p142 : 0 ≤ (x4_1 : Int) := of_decide_eq_true z2_
        have q142 : x4_1 < (l0.length : Int) := of_decide_eq_true z2_
        obtain ⟨ad142, e142, hx142_0⟩ := Kd.at_string HR0.out x4_1 p142 q142
        cases e142
        replace hx142_0 := up_ HB hx142_0
        replace p142 := eq_true p142
        replace q142 := eq_true q142
        have p9 : 0 ≤ (x4_1 : Int) := of_decide_eq_true z2_
        have q9 : (x4_1 : Int) < ((x3_1.length : Int) : Int) := of_decide_eq_true z2_
        obtain ⟨go9, co9, eo9, gb9, gl9, cl9, HG9⟩ := Kd.R_form HO_3.out (by omega)
        (first | cases eo9 | (injection eo9 with ea_ en_ ec_; (first | subst ea_ | (injection ea_ with ea_; subst ea_)); subst ec_; clear en_))
        have GB9 := q_ gb9
        have GG9 := q_ HG9
        clear gb9 gl9 HG9
        obtain ⟨hx9_0, hf9_0⟩ := Kd.R_celln (⟨#[]⟩ : ByteArray) HO_3.out (x4_1 : Int) p9 q9
        replace p9 := eq_true p9
        replace q9 := eq_true q9
        have HP10 := Kd.R_putg HO_3.out (x4_1 : Int) (rdOf ByteArray.empty l0 x4_1)
        go_wp2_with (first | ((with_reducible refine gate_store (t := 9) (p := 20) rfl ?_); refine store_event (t := 9) (p := 20) (v := ?vo_w11) (w1 := (wr.setCell ⟨go9, (x4_1 : Int).toNat, none⟩ (.string (rdOf ByteArray.empty l0 x4_1)))) ?hg ?ho ?hn ?hr ?_; (case ho => rfl); (case hg => rfl); (case hn => rfl); (case hr => exact z200_); intro w11 hw; have hg : wr.grownBy w11 (some go9) := (by rw [hw]; exact HP10.2); have hp_ : Kd.R Kd.string 9 w11 w.heap.size (fun _ => True) (.slice (some ⟨go9, 0, none⟩) x3_1.length co9) y143 := (by rw [hw, Ny143.out]; exact HP10.1); clear HP10; replace HO_3 := q_ (hp_); replace HB := q_ ((by rw [hw]; exact below_set (HB.out) GB9.out : Below w.heap.size w w11)); clear hg hw hp_))
        go_roundg k1
        case measure => have := HK1.out; omega
        case rel => exact ⟨(y143), (wrap64 (x4_1 + 1)), z30_, H', ⟨z89_⟩, ⟨z74_⟩, ⟨z0_⟩⟩
       ·rw [if_neg c8] at H
        exact absurd H (by simp)
      ·rw [if_neg c7] at H
       exact absurd H (by simp)
     ·rw [if_neg c6] at H
      have c6b0 : decide (x4_1 < (l0.length : Int)) = false := decide_eq_false c6
      clear c6
      obtain rfl := Option.some.inj H
      go_wp2
      go_ret
      exact ⟨_, z16_, z74_, z0_⟩
  ·rw [if_neg c3] at H
   exact absurd H (by simp)
 ·rw [if_neg c2] at H
  exact absurd H (by simp)

/-! ### laws_toSuper: function 179 -/
def laws_toSuper.f (a0_0 : Int) (a0_1 : Int) : Option (Int × Int) := some (a0_0, a0_1)
set_option maxHeartbeats 8000000 in
set_option maxRecDepth 100000 in
theorem laws_toSuper.calls (a0_0 : Int) (a0_1 : Int) (r1 : Int) (r2 : Int) (w : World) (h : laws_toSuper.f a0_0 a0_1 = some (r1, r2)) :
  Calls Try.prog 179 #[.agg #[.int .i64 a0_0, .int .i64 a0_1]] w fun e w' => e = .returned (.agg #[.int .i64 r1, .int .i64 r2]) ∧ Below w.heap.size w w' := by
 have hu162 := Try.underlying162
 have hu166 := Try.underlying166
 have HB := q_ (Below.refl w.heap.size w)
 have H : (some (a0_0, a0_1)) = some (r1, r2) := h
 clear h
 simp only [Option.some.injEq, Prod.mk.injEq] at H
 obtain ⟨rfl, rfl⟩ := H
 go_enter Try.func179, Try.ntmps179
 go_wp2_with (first | ((with_reducible refine gate_dst (N := 1) rfl ?_); refine box_event ?hg (N := 1) ?hd (cs := #[.int .i64 a0_0, .int .i64 a0_1]) (t := 162) ?hr ?_; (case hd => rfl); (case hg => rfl); (case hr => exact z200_); intro gb144 hg w2 hbox hb; have BK144 := q_ (hbox); have GW144 := q_ ((z136_ : w.heap.size ≤ gb144)); have GE144 := q_ ((z136_ : w.heap.size ≤ gb144)); replace HB := q_ (below_step z0_ hb); clear hb hbox hg) | ((with_reducible refine gate_dst (N := 2) rfl ?_); refine box_event ?hg (N := 2) ?hd (cs := #[.int .i64 0, .int .i64 0]) (t := 166) ?hr ?_; (case hd => rfl); (case hg => rfl); (case hr => exact z200_); intro gb145 hg w3 hbox hb; have BK145 := q_ (hbox); have GW145 := q_ ((by rw [hg]; exact (below_size z100_) : w.heap.size ≤ gb145)); have GE145 := q_ ((by rw [hg]; exact (below_size z100_) : w.heap.size ≤ gb145)); replace HB := q_ (below_step z100_ hb); have NB144_145 := q_ ((z179_ : gb144 ≠ gb145)); have NB145_144 := q_ ((z180_ : gb145 ≠ gb144)); replace BK144 := q_ (blk_below (g := gb144) (o := .cells #[.int .i64 a0_0, .int .i64 a0_1] 162 (0, 0)) z85_ hb); clear hb hbox hg) | ((with_reducible refine gate_dst (N := 3) rfl ?_); refine box_event ?hg (N := 3) ?hd (cs := #[.int .i64 0, .int .i64 0]) (t := 166) ?hr ?_; (case hd => rfl); (case hg => rfl); (case hr => exact z200_); intro gb146 hg w4 hbox hb; have BK146 := q_ (hbox); have GW146 := q_ ((by rw [hg]; exact (below_size z92_) : w.heap.size ≤ gb146)); have GE146 := q_ ((by rw [hg]; exact (below_size z92_) : w.heap.size ≤ gb146)); replace HB := q_ (below_step z92_ hb); have NB144_146 := q_ ((z179_ : gb144 ≠ gb146)); have NB146_144 := q_ ((z180_ : gb146 ≠ gb144)); replace BK144 := q_ (blk_below (g := gb144) (o := .cells #[.int .i64 a0_0, .int .i64 a0_1] 162 (0, 0)) z85_ hb); have NB145_146 := q_ ((by rw [hg]; exact Nat.ne_of_lt (blk_lt (g := gb145) (o := .cells #[.int .i64 0, .int .i64 0] 166 (0, 0)) z112_) : gb145 ≠ gb146)); have NB146_145 := q_ ((by rw [hg]; exact Nat.ne_of_gt (blk_lt (g := gb145) (o := .cells #[.int .i64 0, .int .i64 0] 166 (0, 0)) z112_) : gb146 ≠ gb145)); replace BK145 := q_ (blk_below (g := gb145) (o := .cells #[.int .i64 0, .int .i64 0] 166 (0, 0)) z112_ hb); clear hb hbox hg; have hnb5 := NB144_145.out; have hnc5 := NB145_144.out; have hnb6 := NB144_146.out; have hnc6 := NB146_144.out; obtain ⟨hcz7_0, hcz7_1, hfz7_0, hfz7_1⟩ := cs2_ BK144.out; have hnb8 := NB146_145.out; have hnc8 := NB145_146.out; obtain ⟨hcz9_0, hcz9_1, hfz9_0, hfz9_1⟩ := cs2_ BK146.out; obtain ⟨hcz10_0, hcz10_1, hfz10_0, hfz10_1⟩ := cs2_ BK145.out))
 refine bodyPost_ret (results_cell_row rfl _ _ gb145 166 #[.int .i64 a0_0, .int .i64 a0_1] (0, 0) _ rfl (by (with_reducible repeat (first | refine blk_drewN ?_ _ | refine blk_drew ?_ | refine blk_alloc ?_ _)); refine blk_put (cs := #[.int .i64 a0_0, .int .i64 0]) ?_ 1 _ rfl; (with_reducible repeat (first | refine blk_drewN ?_ _ | refine blk_drew ?_ | refine blk_alloc ?_ _)); refine blk_put (cs := #[.int .i64 0, .int .i64 0]) ?_ 0 _ rfl; (with_reducible repeat (first | refine blk_drewN ?_ _ | refine blk_drew ?_ | refine blk_alloc ?_ _)); refine blk_far ?_ NB145_146.out _; (with_reducible repeat (first | refine blk_drewN ?_ _ | refine blk_drew ?_ | refine blk_alloc ?_ _)); refine blk_far ?_ NB145_146.out _; (with_reducible repeat (first | refine blk_drewN ?_ _ | refine blk_drew ?_ | refine blk_alloc ?_ _)); exact BK145.out) Try.underlying166 rfl (by kernel_rfl)) rfl ?_
 exact ⟨z16_, by repeat (first | (with_reducible first | exact HB.out | apply below_alloc | apply pw_below_drewN | apply below_drew1 | refine below_set ?_ GE144.out | refine below_set ?_ GE145.out | refine below_set ?_ GE146.out) | exact HB.out)⟩

/-! ### laws_toSuperS: function 147 -/
def laws_toSuperS.l0 : Nat → List (S162) → List (S166) → Int → Option ((List (S166)))
 | 0, _, _, _ => none
 | k + 1, x0, x3, x4 => if x4 < (x0.length : Int) then (if 0 ≤ x4 then ((laws_toSuper.f ((rd_T162 x0 x4).f0) ((rd_T162 x0 x4).f1)).bind fun bt151 => (if x4 < (x3.length : Int) then (laws_toSuperS.l0 k x0 (x3.set (x4 : Int).toNat (⟨bt151.1, bt151.2⟩ : S166)) (wrap64 (x4 + 1))) else (none))) else (none)) else (some x3)
def laws_toSuperS.f (k : Nat) (l0 : List (S162)) : Option ((List (S166))) := if 0 ≤ (l0.length : Int) then (if ((l0.length : Int) : Int).toNat ≤ 17592186044416 then (laws_toSuperS.l0 k l0 (List.replicate ((l0.length : Int) : Int).toNat z166) 0) else (none)) else (none)
theorem laws_toSuperS.mono_l : ∀ k, (∀ y0 y1 y2, LeO (laws_toSuperS.l0 k y0 y1 y2) (laws_toSuperS.l0 (k + 1) y0 y1 y2))
 | 0 => fun _ _ _ r h => by simp [laws_toSuperS.l0] at h
 | k + 1 => by
  have ih0 := laws_toSuperS.mono_l k
  ·intro y0 y1 y2
   unfold laws_toSuperS.l0
   repeat' first
   | (with_reducible exact ih0 _ _ _)
   | (with_reducible exact LeO.refl _)
   | (with_reducible exact LeO.none _)
   | (with_reducible refine LeO.ite ?_ ?_)
   | (with_reducible refine LeO.bind ?_ (fun _ => ?_))
   | exact ih0 _ _ _
   | exact LeO.none _
   | refine LeO.ite ?_ ?_
   | refine LeO.bind ?_ (fun _ => ?_)
theorem laws_toSuperS.mono : ∀ a0 k, LeO (laws_toSuperS.f k a0) (laws_toSuperS.f (k + 1) a0) := by
 intro a0 k
 have ih0 := laws_toSuperS.mono_l k
 unfold laws_toSuperS.f
 repeat' first
   | (with_reducible exact ih0 _ _ _)
   | (with_reducible exact LeO.refl _)
   | (with_reducible exact LeO.none _)
   | (with_reducible refine LeO.ite ?_ ?_)
   | (with_reducible refine LeO.bind ?_ (fun _ => ?_))
   | exact ih0 _ _ _
   | exact LeO.none _
   | refine LeO.ite ?_ ?_
   | refine LeO.bind ?_ (fun _ => ?_)
set_option maxHeartbeats 8000000 in
set_option maxRecDepth 100000 in
theorem laws_toSuperS.calls (k : Nat) (A0 : Option Addr) (c0 : Nat) (l0 : List (S162)) (r : List (S166)) (w : World) (hr0 : Kd.C k162 w A0 l0.length l0) (hc0 : l0.length ≤ c0) (h : laws_toSuperS.f k l0 = some r) :
  Calls Try.prog 147 #[.slice A0 l0.length c0] w fun e w' => ∃ v0_ : Value, e = .returned (v0_) ∧ Kd.R k166 166 w' w.heap.size (fun _ => True) v0_ r ∧ Below w.heap.size w w' := by
 have hu162 := Try.underlying162
 have hu166 := Try.underlying166
 have HR0 := q_ hr0
 have HC0 := q_ hc0
 clear hr0 hc0
 have HB := q_ (Below.refl w.heap.size w)
 have H : (if 0 ≤ (l0.length : Int) then (if ((l0.length : Int) : Int).toNat ≤ 17592186044416 then (laws_toSuperS.l0 k l0 (List.replicate ((l0.length : Int) : Int).toNat z166) 0) else (none)) else (none)) = some r := h
 clear h
 by_cases c2 : 0 ≤ (l0.length : Int)
 ·rw [if_pos c2] at H
  have c2b0 := eq_true c2
  have c2b1 : decide (0 ≤ (l0.length : Int)) = true := decide_eq_true c2
  clear c2
  by_cases c3 : ((l0.length : Int) : Int).toNat ≤ 17592186044416
  ·rw [if_pos c3] at H
   have c3b0 := eq_true c3
   have c3b1 : decide (((l0.length : Int) : Int).toNat ≤ 17592186044416) = true := decide_eq_true c3
   clear c3
   obtain ⟨y147, hy_⟩ : ∃ y_ : List (S166), y_ = (List.replicate ((l0.length : Int) : Int).toNat z166) := ⟨_, rfl⟩
   replace H : (laws_toSuperS.l0 k l0 y147 0) = some r := z7_
   have Ny147 := q_ hy_
   clear hy_
   have H' := q_ H
   clear H
   go_enter Try.func147, Try.ntmps147
   go_wp2_with (first | ((with_reducible refine gate_dst (N := 7) rfl ?_); refine Kd.R_make k166 _ 166 rfl (N := 7) rfl 93 _ _ rfl (l0.length : Int) rfl rfl Try.underlying93 (.agg #[(.int .i64 0), (.int .i64 0)]) 16 info166 rfl (by decide) (by omega) z166 (ok := fun _ => True) (okp := fun _ => True) (k166_mkM _ _ _ z166 ) (fun _ hk => hk) trivial (of_decide_eq_true z2_) (Nat.le_trans (Nat.mul_le_mul_right _ (of_decide_eq_true z2_ : (l0.length : Int).toNat ≤ 17592186044416)) (by omega)) (Below.refl _ _) (Nat.le_refl _) ?_; intro v148 w4 ho5 hb hg_ hnew_; clear hg_ hnew_; (first | rw [← Ny147.out] at ho5 | (simp only [Int.reduceToNat] at ho5; rw [← Ny147.out] at ho5)); have HO149 := q_ (Kd.R_lower ho5 (below_size z0_)); replace HB := q_ (below_step z0_ hb); clear hb ho5))
   go_loopg [4] k (fun kq v4 w' => ∃ (x3_1 : List (S166)) (x4_1 : Int), v4 = .int .i64 x4_1 ∧ Aside0 (laws_toSuperS.l0 kq l0 x3_1 x4_1 = some r) ∧ Aside0 (kq ≤ k) ∧ Aside0 (Kd.R k166 166 w' w.heap.size (fun _ => True) v148 x3_1) ∧ Aside0 (Below w.heap.size w w'))
   case atStart => exact ⟨(y147), (0), z30_, H', ⟨Nat.le_refl _⟩, ⟨by (with_reducible repeat (first | apply Kd.R_alloc | apply Kd.R_drewN | apply Kd.R_drew)); exact HO149.out⟩, ⟨z0_⟩⟩
   case round =>
    clear H'
    try clear c1
    try clear c2
    try clear c2b0
    try clear c2b1
    try clear p2
    try clear c3
    try clear c3b0
    try clear c3b1
    obtain ⟨x3_1, x4_1, rfl, HA, HK1, HO_3, HB⟩ := hrel
    cases gk with
    | zero => exact absurd HA.out (by simp [laws_toSuperS.l0])
    | succ k1 =>
     have H := HA.out
     clear HA
     simp only [laws_toSuperS.l0] at H
     by_cases c6 : x4_1 < (l0.length : Int)
     ·rw [if_pos c6] at H
      have c6b0 : decide (x4_1 < (l0.length : Int)) = true := decide_eq_true c6
      clear c6
      by_cases c7 : 0 ≤ x4_1
      ·rw [if_pos c7] at H
       have c7b0 : decide (0 ≤ x4_1) = true := decide_eq_true c7
       clear c7
       replace H := Option.bind_eq_some_iff.mp H
       obtain ⟨⟨t151, t152⟩, A80, H⟩ := H
       replace H : (if x4_1 < (x3_1.length : Int) then (laws_toSuperS.l0 k1 l0 (x3_1.set (x4_1 : Int).toNat (⟨t151, t152⟩ : S166)) (wrap64 (x4_1 + 1))) else (none)) = some r := H
       have A8 := q_ A80
       clear A80
       by_cases c9 : x4_1 < (x3_1.length : Int)
       ·rw [if_pos c9] at H
        have c9b0 : decide (x4_1 < (x3_1.length : Int)) = true := decide_eq_true c9
        clear c9
        obtain ⟨y153, hy_⟩ : ∃ y_ : List (S166), y_ = (x3_1.set (x4_1 : Int).toNat (⟨t151, t152⟩ : S166)) := ⟨_, rfl⟩
        replace H : (laws_toSuperS.l0 k1 l0 y153 (wrap64 (x4_1 + 1))) = some r := z7_
        have Ny153 := q_ hy_
        clear hy_
        have H' := q_ H
        clear H
        have p150 : 0 ≤ (x4_1 : Int) := of_decide_eq_true z2_
        have q150 : x4_1 < (l0.length : Int) := of_decide_eq_true z2_
        obtain ⟨ad150, e150, hx150_0, hx150_1⟩ := at_T162 HR0.out x4_1 p150 q150
        cases e150
        replace hx150_0 := up_ HB hx150_0
        replace hx150_1 := up_ HB hx150_1
        replace p150 := eq_true p150
        replace q150 := eq_true q150
        go_wp2_with (first | ((with_reducible refine gate_callee (f := 179) rfl ?_); refine goesL_ (some 20) rfl rfl Try.func179 (by kernel_rfl) rfl #[.agg #[.int .i64 ((rd_T162 l0 x4_1).f0), .int .i64 ((rd_T162 l0 x4_1).f1)]] rfl z1_ ?_; (with_reducible refine (laws_toSuper.calls ((rd_T162 l0 x4_1).f0) ((rd_T162 l0 x4_1).f1) t151 t152 _ A8.out).mono ?_); rintro e w11 ⟨rfl, hb⟩; refine ⟨_, rfl, ?_⟩; replace HO_3 := q_ (Kd.R_below z74_ hb); replace HB := q_ (below_step z0_ hb); (try clear hb); (try clear hb2); (try clear hk); (try clear hi); have p10 : 0 ≤ (x4_1 : Int) := of_decide_eq_true z2_; have q10 : (x4_1 : Int) < ((x3_1.length : Int) : Int) := of_decide_eq_true z2_; obtain ⟨go10, co10, eo10, gb10, gl10, cl10, HG10⟩ := Kd.R_form HO_3.out (by omega); (first | cases eo10 | (injection eo10 with ea_ en_ ec_; (first | subst ea_ | (injection ea_ with ea_; subst ea_)); subst ec_; clear en_)); have GB10 := q_ gb10; have GG10 := q_ HG10; clear gb10 gl10 HG10; obtain ⟨ce10, hcl10, hM10, hcc10, hfr10⟩ := Kd.R_elem HO_3.out z166 (x4_1 : Int) p10 q10; obtain rfl := k166_openM hM10; have hx10_0 : w11.cell? ⟨go10, (x4_1 : Int).toNat * 2, none⟩ = some (.int .i64 ((rd_T166 x3_1 x4_1).f0)) := hcc10 0 _ rfl; have hx10_1 : w11.cell? ⟨go10, (x4_1 : Int).toNat * 2 + 1, none⟩ = some (.int .i64 ((rd_T166 x3_1 x4_1).f1)) := hcc10 1 _ rfl; have hf10_0 : w11.frozen? ⟨go10, (x4_1 : Int).toNat * 2, none⟩ = false := hfr10 0; have hf10_1 : w11.frozen? ⟨go10, (x4_1 : Int).toNat * 2 + 1, none⟩ = false := hfr10 1; clear hcl10 hcc10 hfr10 hM10; replace p10 := eq_true p10; replace q10 := eq_true q10; have HX12 := q_ (show Kd.R k166 166 w11 w.heap.size (fun _ => True) (.slice (some ⟨go10, 0, none⟩) x3_1.length co10) x3_1 from z74_); obtain ⟨ce12, hcl12, hM12, hcc12, hfr12⟩ := Kd.R_elem HX12.out z166 (x4_1 : Int) (of_decide_eq_true z2_) z147_; obtain rfl := k166_openM hM12; have HP12 := Kd.R_seg HX12.out (x4_1 : Int) (of_decide_eq_true z2_) z147_ (seg := [.int .i64 t151, .int .i64 t152]) (j := 0) hcl12 hcc12 (show 2 ≤ 2 from by decide) (x' := (⟨t151, t152⟩ : S166)) (k166_mkM _ _ _ (⟨t151, t152⟩ : S166) ) (fun _ hk => hk); have hx12_0 := hcc12 0 _ rfl; (try simp only [show (k166).sz = 2 from rfl, Nat.mul_one, Nat.add_zero] at hx12_0); have hf12_0 := hfr12 0; (try simp only [show (k166).sz = 2 from rfl, Nat.mul_one, Nat.add_zero] at hf12_0); have hx12_1 := hcc12 1 _ rfl; (try simp only [show (k166).sz = 2 from rfl, Nat.mul_one, Nat.add_zero] at hx12_1); have hf12_1 := hfr12 1; (try simp only [show (k166).sz = 2 from rfl, Nat.mul_one, Nat.add_zero] at hf12_1); clear hcl12 hcc12 hfr12 hM12) | ((with_reducible refine gate_store (t := 166) (p := 21) rfl ?_); refine store_event (t := 166) (p := 21) (v := ?vo_w13) (w1 := ((w11.setCell ⟨go10, (x4_1 : Int).toNat * 2, none⟩ (.int .i64 t151)).setCell ⟨go10, (x4_1 : Int).toNat * 2 + 1, none⟩ (.int .i64 t152))) ?hg ?ho ?hn ?hr ?_; (case ho => rfl); (case hg => rfl); (case hn => rfl); (case hr => exact z200_); intro w13 hw; have hg : w11.grownBy w13 (some go10) := (by rw [hw]; exact HP12.2); have hp_ : Kd.R k166 166 w13 w.heap.size (fun _ => True) (.slice (some ⟨go10, 0, none⟩) x3_1.length co10) y153 := (by rw [hw, Ny153.out]; exact HP12.1); clear HP12; replace HO_3 := q_ (hp_); replace HB := q_ ((by rw [hw]; exact below_set (below_set (HB.out) GB10.out) GB10.out : Below w.heap.size w w13)); clear hg hw hp_))
        go_roundg k1
        case measure => have := HK1.out; omega
        case rel => exact ⟨(y153), (wrap64 (x4_1 + 1)), z30_, H', ⟨z89_⟩, ⟨z74_⟩, ⟨z0_⟩⟩
       ·rw [if_neg c9] at H
        exact absurd H (by simp)
      ·rw [if_neg c7] at H
       exact absurd H (by simp)
     ·rw [if_neg c6] at H
      have c6b0 : decide (x4_1 < (l0.length : Int)) = false := decide_eq_false c6
      clear c6
      obtain rfl := Option.some.inj H
      go_wp2
      go_ret
      exact ⟨_, z16_, z74_, z0_⟩
  ·rw [if_neg c3] at H
   exact absurd H (by simp)
 ·rw [if_neg c2] at H
  exact absurd H (by simp)

/-! ### laws_toDisk: function 73 -/
def laws_toDisk.f (k : Nat) (l0_0 : List ByteArray) (l0_1 : List (S162)) : Option (List ByteArray × (List (S166))) := (laws_toStringS.f k l0_0).bind fun t157 => ((laws_toSuperS.f k l0_1).bind fun t160 => (some (t157, t160)))
theorem laws_toDisk.mono : ∀ a0 a1 k, LeO (laws_toDisk.f k a0 a1) (laws_toDisk.f (k + 1) a0 a1) := by
 intro a0 a1 k
 unfold laws_toDisk.f
 repeat' first
   | (with_reducible exact laws_toStringS.mono _ _)
   | (with_reducible exact laws_toSuperS.mono _ _)
   | (with_reducible exact LeO.refl _)
   | (with_reducible exact LeO.none _)
   | (with_reducible refine LeO.ite ?_ ?_)
   | (with_reducible refine LeO.bind ?_ (fun _ => ?_))
   | exact laws_toStringS.mono _ _
   | exact laws_toSuperS.mono _ _
   | exact LeO.none _
   | refine LeO.ite ?_ ?_
   | refine LeO.bind ?_ (fun _ => ?_)
set_option maxHeartbeats 8000000 in
set_option maxRecDepth 100000 in
theorem laws_toDisk.calls (k : Nat) (A0_0 : Option Addr) (c0_0 : Nat) (l0_0 : List ByteArray) (A0_1 : Option Addr) (c0_1 : Nat) (l0_1 : List (S162)) (r1 : List ByteArray) (r2 : List (S166)) (w : World) (hr0_0 : Kd.C Kd.string w A0_0 l0_0.length l0_0) (hc0_0 : l0_0.length ≤ c0_0) (hr0_1 : Kd.C k162 w A0_1 l0_1.length l0_1) (hc0_1 : l0_1.length ≤ c0_1) (h : laws_toDisk.f k l0_0 l0_1 = some (r1, r2)) :
  Calls Try.prog 73 #[.agg #[.slice A0_0 l0_0.length c0_0, .slice A0_1 l0_1.length c0_1]] w fun e w' => ∃ v0_ v1_ : Value, e = .returned (.agg #[v0_, v1_]) ∧ Kd.R Kd.string 9 w' w.heap.size (fun _ => True) v0_ r1 ∧ Kd.R k166 166 w' w.heap.size (fun _ => True) v1_ r2 ∧ Below w.heap.size w w' := by
 have hu89 := Try.underlying89
 have hu95 := Try.underlying95
 have HR0_0 := q_ hr0_0
 have HC0_0 := q_ hc0_0
 clear hr0_0 hc0_0
 have HR0_1 := q_ hr0_1
 have HC0_1 := q_ hc0_1
 clear hr0_1 hc0_1
 have HB := q_ (Below.refl w.heap.size w)
 have H : ((laws_toStringS.f k l0_0).bind fun t157 => ((laws_toSuperS.f k l0_1).bind fun t160 => (some (t157, t160)))) = some (r1, r2) := h
 clear h
 replace H := Option.bind_eq_some_iff.mp H
 obtain ⟨t157, A20, H⟩ := H
 replace H : ((laws_toSuperS.f k l0_1).bind fun t160 => (some (t157, t160))) = some (r1, r2) := H
 have A2 := q_ A20
 clear A20
 replace H := Option.bind_eq_some_iff.mp H
 obtain ⟨t160, A30, H⟩ := H
 replace H : (some (t157, t160)) = some (r1, r2) := H
 have A3 := q_ A30
 clear A30
 simp only [Option.some.injEq, Prod.mk.injEq] at H
 obtain ⟨rfl, rfl⟩ := H
 go_enter Try.func73, Try.ntmps73
 go_wp2_with (first | ((with_reducible refine gate_dst (N := 1) rfl ?_); refine box_event ?hg (N := 1) ?hd (cs := #[.slice A0_0 l0_0.length c0_0, .slice A0_1 l0_1.length c0_1]) (t := 89) ?hr ?_; (case hd => rfl); (case hg => rfl); (case hr => exact z200_); intro gb154 hg w4 hbox hb; have BK154 := q_ (hbox); have GW154 := q_ ((z136_ : w.heap.size ≤ gb154)); have GE154 := q_ ((z136_ : w.heap.size ≤ gb154)); replace HB := q_ (below_step z0_ hb); clear hb hbox hg) | ((with_reducible refine gate_dst (N := 2) rfl ?_); refine box_event ?hg (N := 2) ?hd (cs := #[.slice none 0 0, .slice none 0 0]) (t := 95) ?hr ?_; (case hd => rfl); (case hg => rfl); (case hr => exact z200_); intro gb155 hg w5 hbox hb; have BK155 := q_ (hbox); have GW155 := q_ ((by rw [hg]; exact (below_size z101_) : w.heap.size ≤ gb155)); have GE155 := q_ ((by rw [hg]; exact (below_size z101_) : w.heap.size ≤ gb155)); replace HB := q_ (below_step z101_ hb); have NB154_155 := q_ ((z173_ : gb154 ≠ gb155)); have NB155_154 := q_ ((z174_ : gb155 ≠ gb154)); replace BK154 := q_ (blk_below (g := gb154) (o := .cells #[.slice A0_0 l0_0.length c0_0, .slice A0_1 l0_1.length c0_1] 89 (0, 0)) z82_ hb); clear hb hbox hg) | ((with_reducible refine gate_dst (N := 3) rfl ?_); refine box_event ?hg (N := 3) ?hd (cs := #[.slice none 0 0, .slice none 0 0]) (t := 95) ?hr ?_; (case hd => rfl); (case hg => rfl); (case hr => exact z200_); intro gb156 hg w6 hbox hb; have BK156 := q_ (hbox); have GW156 := q_ ((by rw [hg]; exact (below_size z93_) : w.heap.size ≤ gb156)); have GE156 := q_ ((by rw [hg]; exact (below_size z93_) : w.heap.size ≤ gb156)); replace HB := q_ (below_step z93_ hb); have NB154_156 := q_ ((z173_ : gb154 ≠ gb156)); have NB156_154 := q_ ((z174_ : gb156 ≠ gb154)); replace BK154 := q_ (blk_below (g := gb154) (o := .cells #[.slice A0_0 l0_0.length c0_0, .slice A0_1 l0_1.length c0_1] 89 (0, 0)) z82_ hb); have NB155_156 := q_ ((by rw [hg]; exact Nat.ne_of_lt (blk_lt (g := gb155) (o := .cells #[.slice none 0 0, .slice none 0 0] 95 (0, 0)) z105_) : gb155 ≠ gb156)); have NB156_155 := q_ ((by rw [hg]; exact Nat.ne_of_gt (blk_lt (g := gb155) (o := .cells #[.slice none 0 0, .slice none 0 0] 95 (0, 0)) z105_) : gb156 ≠ gb155)); replace BK155 := q_ (blk_below (g := gb155) (o := .cells #[.slice none 0 0, .slice none 0 0] 95 (0, 0)) z105_ hb); clear hb hbox hg; have hnb7 := NB154_155.out; have hnc7 := NB155_154.out; have hnb8 := NB154_156.out; have hnc8 := NB156_154.out; obtain ⟨hcz9_0, hcz9_1, hfz9_0, hfz9_1⟩ := cs2_ BK154.out) | ((with_reducible refine gate_callee (f := 146) rfl ?_); refine goesL_ (some 6) rfl rfl Try.func146 (by kernel_rfl) rfl #[.slice A0_0 l0_0.length c0_0] rfl z1_ ?_; (with_reducible refine (laws_toStringS.calls k _ _ l0_0 t157 _ ?side1 ?side2 A2.out).mono ?_); (case side1 => exact z199_); (case side2 => exact z221_); rintro e w10 ⟨v158, rfl, ho0, hb⟩; refine ⟨_, rfl, ?_⟩; have HO159 := q_ (Kd.R_lower ho0 (below_size z60_)); replace BK154 := q_ (blk_below (g := gb154) (o := .cells #[.slice A0_0 l0_0.length c0_0, .slice A0_1 l0_1.length c0_1] 89 (0, 0)) z82_ hb); replace BK155 := q_ (blk_below (g := gb155) (o := .cells #[.slice none 0 0, .slice none 0 0] 95 (0, 0)) z105_ hb); replace BK156 := q_ (blk_below (g := gb156) (o := .cells #[.slice none 0 0, .slice none 0 0] 95 (0, 0)) (by (with_reducible repeat (first | refine blk_drewN ?_ _ | refine blk_drew ?_ | refine blk_alloc ?_ _)); exact BK156.out) hb); replace HB := q_ (below_step z60_ hb); (try clear hb); (try clear hb2); (try clear hk); (try clear hi); (try clear ho0); obtain ⟨Ao11, co11, eo11⟩ := Kd.R_slice HO159.out; subst eo11; have hnb12 := NB156_155.out; have hnc12 := NB155_156.out; obtain ⟨hcz13_0, hcz13_1, hfz13_0, hfz13_1⟩ := cs2_ BK156.out; obtain ⟨hcz14_0, hcz14_1, hfz14_0, hfz14_1⟩ := cs2_ BK154.out) | ((with_reducible refine gate_callee (f := 147) rfl ?_); refine goesL_ (some 10) rfl rfl Try.func147 (by kernel_rfl) rfl #[.slice A0_1 l0_1.length c0_1] rfl z1_ ?_; (with_reducible refine (laws_toSuperS.calls k _ _ l0_1 t160 _ ?side1 ?side2 A3.out).mono ?_); (case side1 => exact Kd.C_below HR0_1.out z60_); (case side2 => exact z222_); rintro e w15 ⟨v161, rfl, ho0, hb⟩; refine ⟨_, rfl, ?_⟩; replace HO159 := q_ (Kd.R_below (by (with_reducible repeat (first | apply Kd.R_alloc | apply Kd.R_drewN | apply Kd.R_drew)); exact (Kd.R_mono (Kd.R_far (p := ⟨gb156, 0, none⟩) (Kd.R_types HO159.out BK156.out (by decide)) (fun _ hk => hk.2) (.slice Ao11 t157.length co11)) (fun _ h_ => h_.1))) hb); have HO162 := q_ (Kd.R_lower ho0 (below_size z60_)); replace BK154 := q_ (blk_below (g := gb154) (o := .cells #[.slice A0_0 l0_0.length c0_0, .slice A0_1 l0_1.length c0_1] 89 (0, 0)) (by (with_reducible repeat (first | refine blk_drewN ?_ _ | refine blk_drew ?_ | refine blk_alloc ?_ _)); refine blk_far ?_ NB154_156.out _; (with_reducible repeat (first | refine blk_drewN ?_ _ | refine blk_drew ?_ | refine blk_alloc ?_ _)); exact BK154.out) hb); replace BK155 := q_ (blk_below (g := gb155) (o := .cells #[.slice none 0 0, .slice none 0 0] 95 (0, 0)) (by (with_reducible repeat (first | refine blk_drewN ?_ _ | refine blk_drew ?_ | refine blk_alloc ?_ _)); refine blk_far ?_ NB155_156.out _; (with_reducible repeat (first | refine blk_drewN ?_ _ | refine blk_drew ?_ | refine blk_alloc ?_ _)); exact BK155.out) hb); replace BK156 := q_ (blk_below (g := gb156) (o := .cells #[.slice Ao11 t157.length co11, .slice none 0 0] 95 (0, 0)) (by (with_reducible repeat (first | refine blk_drewN ?_ _ | refine blk_drew ?_ | refine blk_alloc ?_ _)); refine blk_put (cs := #[.slice none 0 0, .slice none 0 0]) ?_ 0 _ rfl; (with_reducible repeat (first | refine blk_drewN ?_ _ | refine blk_drew ?_ | refine blk_alloc ?_ _)); exact BK156.out) hb); replace HB := q_ (below_step z60_ hb); (try clear hb); (try clear hb2); (try clear hk); (try clear hi); (try clear ho0); obtain ⟨Ao16, co16, eo16⟩ := Kd.R_slice HO162.out; subst eo16; obtain ⟨hcz17_0, hcz17_1, hfz17_0, hfz17_1⟩ := cs2_ BK156.out; obtain ⟨hcz18_0, hcz18_1, hfz18_0, hfz18_1⟩ := cs2_ BK155.out))
 refine bodyPost_ret (results_cell_row rfl _ _ gb155 95 #[.slice Ao11 t157.length co11, .slice Ao16 t160.length co16] (0, 0) _ rfl (by (with_reducible repeat (first | refine blk_drewN ?_ _ | refine blk_drew ?_ | refine blk_alloc ?_ _)); refine blk_put (cs := #[.slice Ao11 t157.length co11, .slice none 0 0]) ?_ 1 _ rfl; (with_reducible repeat (first | refine blk_drewN ?_ _ | refine blk_drew ?_ | refine blk_alloc ?_ _)); refine blk_put (cs := #[.slice none 0 0, .slice none 0 0]) ?_ 0 _ rfl; (with_reducible repeat (first | refine blk_drewN ?_ _ | refine blk_drew ?_ | refine blk_alloc ?_ _)); refine blk_far ?_ NB155_156.out _; (with_reducible repeat (first | refine blk_drewN ?_ _ | refine blk_drew ?_ | refine blk_alloc ?_ _)); exact BK155.out) Try.underlying95 rfl (by kernel_rfl)) rfl ?_
 exact ⟨_, _, z16_, by (with_reducible repeat (first | apply Kd.R_alloc | apply Kd.R_drewN | apply Kd.R_drew)); exact Kd.R_mono (Kd.R_far (p := ⟨gb155, 1, none⟩) (Kd.R_far (p := ⟨gb155, 0, none⟩) (Kd.R_far (p := ⟨gb156, 1, none⟩) (Kd.R_types (Kd.R_types HO159.out BK156.out (by decide)) BK155.out (by decide)) (fun _ hk => hk.1.2) (.slice Ao16 t160.length co16)) (fun _ hk => hk.2) (.slice Ao11 t157.length co11)) (fun _ hk => hk.2) (.slice Ao16 t160.length co16)) (fun _ hk => trivial), by (with_reducible repeat (first | apply Kd.R_alloc | apply Kd.R_drewN | apply Kd.R_drew)); exact Kd.R_mono (Kd.R_far (p := ⟨gb155, 1, none⟩) (Kd.R_far (p := ⟨gb155, 0, none⟩) (Kd.R_far (p := ⟨gb156, 1, none⟩) (Kd.R_types (Kd.R_types HO162.out BK156.out (by decide)) BK155.out (by decide)) (fun _ hk => hk.1.2) (.slice Ao16 t160.length co16)) (fun _ hk => hk.2) (.slice Ao11 t157.length co11)) (fun _ hk => hk.2) (.slice Ao16 t160.length co16)) (fun _ hk => trivial), z60_⟩

/-! ### laws_toWrite: function 148 -/
def laws_toWrite.f (a0_0 : Int) (a0_1 : ByteArray) (a0_2 : Int) (a0_3 : Int) : Option (Int × ByteArray × Int × Int) := (laws_toSuper.f a0_2 a0_3).bind fun bt166 => (some (a0_0, a0_1, bt166.1, bt166.2))
set_option maxHeartbeats 8000000 in
set_option maxRecDepth 100000 in
theorem laws_toWrite.calls (a0_0 : Int) (a0_1 : ByteArray) (a0_2 : Int) (a0_3 : Int) (r1 : Int) (r2 : ByteArray) (r3 : Int) (r4 : Int) (w : World) (h : laws_toWrite.f a0_0 a0_1 a0_2 a0_3 = some (r1, r2, r3, r4)) :
  Calls Try.prog 148 #[.agg #[.int .i64 a0_0, .string a0_1, .int .i64 a0_2, .int .i64 a0_3]] w fun e w' => e = .returned (.agg #[.int .i64 r1, .string r2, .int .i64 r3, .int .i64 r4]) ∧ Below w.heap.size w w' := by
 have hu164 := Try.underlying164
 have hu168 := Try.underlying168
 have hu162 := Try.underlying162
 have hu166 := Try.underlying166
 have HB := q_ (Below.refl w.heap.size w)
 have H : ((laws_toSuper.f a0_2 a0_3).bind fun bt166 => (some (a0_0, a0_1, bt166.1, bt166.2))) = some (r1, r2, r3, r4) := h
 clear h
 replace H := Option.bind_eq_some_iff.mp H
 obtain ⟨⟨t166, t167⟩, A20, H⟩ := H
 replace H : (some (a0_0, a0_1, t166, t167)) = some (r1, r2, r3, r4) := H
 have A2 := q_ A20
 clear A20
 simp only [Option.some.injEq, Prod.mk.injEq] at H
 obtain ⟨rfl, rfl, rfl, rfl⟩ := H
 go_enter Try.func148, Try.ntmps148
 go_wp2_with (first | ((with_reducible refine gate_dst (N := 1) rfl ?_); refine box_event ?hg (N := 1) ?hd (cs := #[.int .i64 a0_0, .string a0_1, .int .i64 a0_2, .int .i64 a0_3]) (t := 164) ?hr ?_; (case hd => rfl); (case hg => rfl); (case hr => exact z200_); intro gb163 hg w3 hbox hb; have BK163 := q_ (hbox); have GW163 := q_ ((z136_ : w.heap.size ≤ gb163)); have GE163 := q_ ((z136_ : w.heap.size ≤ gb163)); replace HB := q_ (below_step z0_ hb); clear hb hbox hg) | ((with_reducible refine gate_dst (N := 2) rfl ?_); refine box_event ?hg (N := 2) ?hd (cs := #[.int .i64 0, .string (⟨#[]⟩ : ByteArray), .int .i64 0, .int .i64 0]) (t := 168) ?hr ?_; (case hd => rfl); (case hg => rfl); (case hr => exact z200_); intro gb164 hg w4 hbox hb; have BK164 := q_ (hbox); have GW164 := q_ ((by rw [hg]; exact (below_size z102_) : w.heap.size ≤ gb164)); have GE164 := q_ ((by rw [hg]; exact (below_size z102_) : w.heap.size ≤ gb164)); replace HB := q_ (below_step z102_ hb); have NB163_164 := q_ ((z165_ : gb163 ≠ gb164)); have NB164_163 := q_ ((z166_ : gb164 ≠ gb163)); replace BK163 := q_ (blk_below (g := gb163) (o := .cells #[.int .i64 a0_0, .string a0_1, .int .i64 a0_2, .int .i64 a0_3] 164 (0, 0)) z86_ hb); clear hb hbox hg) | ((with_reducible refine gate_dst (N := 3) rfl ?_); refine box_event ?hg (N := 3) ?hd (cs := #[.int .i64 0, .string (⟨#[]⟩ : ByteArray), .int .i64 0, .int .i64 0]) (t := 168) ?hr ?_; (case hd => rfl); (case hg => rfl); (case hr => exact z200_); intro gb165 hg w5 hbox hb; have BK165 := q_ (hbox); have GW165 := q_ ((by rw [hg]; exact (below_size z94_) : w.heap.size ≤ gb165)); have GE165 := q_ ((by rw [hg]; exact (below_size z94_) : w.heap.size ≤ gb165)); replace HB := q_ (below_step z94_ hb); have NB163_165 := q_ ((z165_ : gb163 ≠ gb165)); have NB165_163 := q_ ((z166_ : gb165 ≠ gb163)); replace BK163 := q_ (blk_below (g := gb163) (o := .cells #[.int .i64 a0_0, .string a0_1, .int .i64 a0_2, .int .i64 a0_3] 164 (0, 0)) z86_ hb); have NB164_165 := q_ ((by rw [hg]; exact Nat.ne_of_lt (blk_lt (g := gb164) (o := .cells #[.int .i64 0, .string (⟨#[]⟩ : ByteArray), .int .i64 0, .int .i64 0] 168 (0, 0)) z113_) : gb164 ≠ gb165)); have NB165_164 := q_ ((by rw [hg]; exact Nat.ne_of_gt (blk_lt (g := gb164) (o := .cells #[.int .i64 0, .string (⟨#[]⟩ : ByteArray), .int .i64 0, .int .i64 0] 168 (0, 0)) z113_) : gb165 ≠ gb164)); replace BK164 := q_ (blk_below (g := gb164) (o := .cells #[.int .i64 0, .string (⟨#[]⟩ : ByteArray), .int .i64 0, .int .i64 0] 168 (0, 0)) z113_ hb); clear hb hbox hg; have hnb6 := NB163_164.out; have hnc6 := NB164_163.out; have hnb7 := NB163_165.out; have hnc7 := NB165_163.out; obtain ⟨hcz8_0, hcz8_1, hcz8_2, hcz8_3, hfz8_0, hfz8_1, hfz8_2, hfz8_3⟩ := cs4_ BK163.out; have hnb9 := NB165_164.out; have hnc9 := NB164_165.out; obtain ⟨hcz10_0, hcz10_1, hcz10_2, hcz10_3, hfz10_0, hfz10_1, hfz10_2, hfz10_3⟩ := cs4_ BK165.out) | ((with_reducible refine gate_callee (f := 179) rfl ?_); refine goesL_ (some 12) rfl rfl Try.func179 (by kernel_rfl) rfl #[.agg #[.int .i64 a0_2, .int .i64 a0_3]] rfl z1_ ?_; (with_reducible refine (laws_toSuper.calls a0_2 a0_3 t166 t167 _ A2.out).mono ?_); rintro e w11 ⟨rfl, hb⟩; refine ⟨_, rfl, ?_⟩; replace BK163 := q_ (blk_below (g := gb163) (o := .cells #[.int .i64 a0_0, .string a0_1, .int .i64 a0_2, .int .i64 a0_3] 164 (0, 0)) (by (with_reducible repeat (first | refine blk_drewN ?_ _ | refine blk_drew ?_ | refine blk_alloc ?_ _)); refine blk_far ?_ NB163_165.out _; (with_reducible repeat (first | refine blk_drewN ?_ _ | refine blk_drew ?_ | refine blk_alloc ?_ _)); refine blk_far ?_ NB163_165.out _; (with_reducible repeat (first | refine blk_drewN ?_ _ | refine blk_drew ?_ | refine blk_alloc ?_ _)); exact BK163.out) hb); replace BK164 := q_ (blk_below (g := gb164) (o := .cells #[.int .i64 0, .string (⟨#[]⟩ : ByteArray), .int .i64 0, .int .i64 0] 168 (0, 0)) (by (with_reducible repeat (first | refine blk_drewN ?_ _ | refine blk_drew ?_ | refine blk_alloc ?_ _)); refine blk_far ?_ NB164_165.out _; (with_reducible repeat (first | refine blk_drewN ?_ _ | refine blk_drew ?_ | refine blk_alloc ?_ _)); refine blk_far ?_ NB164_165.out _; (with_reducible repeat (first | refine blk_drewN ?_ _ | refine blk_drew ?_ | refine blk_alloc ?_ _)); exact BK164.out) hb); replace BK165 := q_ (blk_below (g := gb165) (o := .cells #[.int .i64 a0_0, .string a0_1, .int .i64 0, .int .i64 0] 168 (0, 0)) (by (with_reducible repeat (first | refine blk_drewN ?_ _ | refine blk_drew ?_ | refine blk_alloc ?_ _)); refine blk_put (cs := #[.int .i64 a0_0, .string (⟨#[]⟩ : ByteArray), .int .i64 0, .int .i64 0]) ?_ 1 _ rfl; (with_reducible repeat (first | refine blk_drewN ?_ _ | refine blk_drew ?_ | refine blk_alloc ?_ _)); refine blk_put (cs := #[.int .i64 0, .string (⟨#[]⟩ : ByteArray), .int .i64 0, .int .i64 0]) ?_ 0 _ rfl; (with_reducible repeat (first | refine blk_drewN ?_ _ | refine blk_drew ?_ | refine blk_alloc ?_ _)); exact BK165.out) hb); replace HB := q_ (below_step z106_ hb); (try clear hb); (try clear hb2); (try clear hk); (try clear hi); obtain ⟨hcz12_0, hcz12_1, hcz12_2, hcz12_3, hfz12_0, hfz12_1, hfz12_2, hfz12_3⟩ := cs4_ BK165.out; obtain ⟨hcz13_0, hcz13_1, hcz13_2, hcz13_3, hfz13_0, hfz13_1, hfz13_2, hfz13_3⟩ := cs4_ BK164.out))
 refine bodyPost_ret (results_cell_row rfl _ _ gb164 168 #[.int .i64 a0_0, .string a0_1, .int .i64 t166, .int .i64 t167] (0, 0) _ rfl (by (with_reducible repeat (first | refine blk_drewN ?_ _ | refine blk_drew ?_ | refine blk_alloc ?_ _)); refine blk_put (cs := #[.int .i64 a0_0, .string a0_1, .int .i64 t166, .int .i64 0]) ?_ 3 _ rfl; (with_reducible repeat (first | refine blk_drewN ?_ _ | refine blk_drew ?_ | refine blk_alloc ?_ _)); refine blk_put (cs := #[.int .i64 a0_0, .string a0_1, .int .i64 0, .int .i64 0]) ?_ 2 _ rfl; (with_reducible repeat (first | refine blk_drewN ?_ _ | refine blk_drew ?_ | refine blk_alloc ?_ _)); refine blk_put (cs := #[.int .i64 a0_0, .string (⟨#[]⟩ : ByteArray), .int .i64 0, .int .i64 0]) ?_ 1 _ rfl; (with_reducible repeat (first | refine blk_drewN ?_ _ | refine blk_drew ?_ | refine blk_alloc ?_ _)); refine blk_put (cs := #[.int .i64 0, .string (⟨#[]⟩ : ByteArray), .int .i64 0, .int .i64 0]) ?_ 0 _ rfl; (with_reducible repeat (first | refine blk_drewN ?_ _ | refine blk_drew ?_ | refine blk_alloc ?_ _)); refine blk_far ?_ NB164_165.out _; (with_reducible repeat (first | refine blk_drewN ?_ _ | refine blk_drew ?_ | refine blk_alloc ?_ _)); refine blk_far ?_ NB164_165.out _; (with_reducible repeat (first | refine blk_drewN ?_ _ | refine blk_drew ?_ | refine blk_alloc ?_ _)); exact BK164.out) Try.underlying168 rfl (by kernel_rfl)) rfl ?_
 exact ⟨z16_, z106_⟩

end Go.Proofs.Ytphlmbhjeoljoaa.PFnExactDo
