-- Written by a program of this session, which goes by the kit's print. Not trusted: Lean checks it.
import Derived.Test.YtphlmbhjeoljoaaPFnExactSomex0
import Derived.Test.YtphlmbhjeoljoaaPFnExactSomex4
namespace Go.Proofs.Ytphlmbhjeoljoaa.PFnExactSome
open Go.RowKit Go.Proofs.YtphlmbhjeoljoaaW.PrintWords Go.Proofs.YtphlmbhjeoljoaaW.PrintLast Go.Proofs.YtphlmbhjeoljoaaW.PrintMore
attribute [local go_sem] max2_int min2_int max_two min_two max_three min_three max_four min_four   -- for this text's walks alone
set_option linter.unusedVariables false
set_option linter.unusedSimpArgs false

/-! ### spec_Do: function 72 -/
def spec_Do.l0 : Nat → List (S168) → Int → List ByteArray → List (S166) → Option (List ByteArray × (List (S166)))
 | 0, _, _, _, _ => none
 | k + 1, x1, x6, x210000, x210001 => if x6 < (x1.length : Int) then (if 0 ≤ x6 then ((spec_l1In.f ((rd_T168 x1 x6).f0) 0 (wrap64 ((x210000.length : Int) - 1))).bind fun t212 => (if t212 = true then (if 0 ≤ ((rd_T168 x1 x6).f0) then (if ((rd_T168 x1 x6).f0) < (x210000.length : Int) then ((some (x210000.set (((rd_T168 x1 x6).f0) : Int).toNat ((rd_T168 x1 x6).f1) : List ByteArray)).bind fun y213 => (if ((rd_T168 x1 x6).f0) = (-1) then (if (wrap64 ((-1) - ((rd_T168 x1 x6).f0))) < (x210001.length : Int) then (if 0 ≤ (wrap64 ((-1) - ((rd_T168 x1 x6).f0))) then (spec_Do.l0 k x1 (wrap64 (x6 + 1)) y213 (x210001.set ((wrap64 ((-1) - ((rd_T168 x1 x6).f0))) : Int).toNat (⟨(rd_T168 x1 x6).f2.f0, (rd_T168 x1 x6).f2.f1⟩ : S166))) else (none)) else (spec_Do.l0 k x1 (wrap64 (x6 + 1)) y213 x210001)) else (if ((rd_T168 x1 x6).f0) = (-2) then (if (wrap64 ((-1) - ((rd_T168 x1 x6).f0))) < (x210001.length : Int) then (if 0 ≤ (wrap64 ((-1) - ((rd_T168 x1 x6).f0))) then (spec_Do.l0 k x1 (wrap64 (x6 + 1)) y213 (x210001.set ((wrap64 ((-1) - ((rd_T168 x1 x6).f0))) : Int).toNat (⟨(rd_T168 x1 x6).f2.f0, (rd_T168 x1 x6).f2.f1⟩ : S166))) else (none)) else (spec_Do.l0 k x1 (wrap64 (x6 + 1)) y213 x210001)) else (spec_Do.l0 k x1 (wrap64 (x6 + 1)) y213 x210001)))) else (none)) else (none)) else (if ((rd_T168 x1 x6).f0) = (-1) then (if (wrap64 ((-1) - ((rd_T168 x1 x6).f0))) < (x210001.length : Int) then (if 0 ≤ (wrap64 ((-1) - ((rd_T168 x1 x6).f0))) then (spec_Do.l0 k x1 (wrap64 (x6 + 1)) x210000 (x210001.set ((wrap64 ((-1) - ((rd_T168 x1 x6).f0))) : Int).toNat (⟨(rd_T168 x1 x6).f2.f0, (rd_T168 x1 x6).f2.f1⟩ : S166))) else (none)) else (spec_Do.l0 k x1 (wrap64 (x6 + 1)) x210000 x210001)) else (if ((rd_T168 x1 x6).f0) = (-2) then (if (wrap64 ((-1) - ((rd_T168 x1 x6).f0))) < (x210001.length : Int) then (if 0 ≤ (wrap64 ((-1) - ((rd_T168 x1 x6).f0))) then (spec_Do.l0 k x1 (wrap64 (x6 + 1)) x210000 (x210001.set ((wrap64 ((-1) - ((rd_T168 x1 x6).f0))) : Int).toNat (⟨(rd_T168 x1 x6).f2.f0, (rd_T168 x1 x6).f2.f1⟩ : S166))) else (none)) else (spec_Do.l0 k x1 (wrap64 (x6 + 1)) x210000 x210001)) else (spec_Do.l0 k x1 (wrap64 (x6 + 1)) x210000 x210001))))) else (none)) else (some (x210000, x210001))
def spec_Do.f (k : Nat) (l0_0 : List ByteArray) (l0_1 : List (S166)) (l1 : List (S168)) : Option (List ByteArray × (List (S166))) := (spec_l6Copy.f l0_0 l0_1).bind fun bt203 => (spec_Do.l0 k l1 0 bt203.1 bt203.2)
theorem spec_Do.mono_l : ∀ k, (∀ y0 y1 y2 y3, LeO (spec_Do.l0 k y0 y1 y2 y3) (spec_Do.l0 (k + 1) y0 y1 y2 y3))
 | 0 => fun _ _ _ _ r h => by simp [spec_Do.l0] at h
 | k + 1 => by
  have ih0 := spec_Do.mono_l k
  ·intro y0 y1 y2 y3
   unfold spec_Do.l0
   repeat' first
   | (with_reducible exact ih0 _ _ _ _)
   | (with_reducible exact LeO.refl _)
   | (with_reducible exact LeO.none _)
   | (with_reducible refine LeO.ite ?_ ?_)
   | (with_reducible refine LeO.bind ?_ (fun _ => ?_))
   | exact ih0 _ _ _ _
   | exact LeO.none _
   | refine LeO.ite ?_ ?_
   | refine LeO.bind ?_ (fun _ => ?_)
theorem spec_Do.mono : ∀ a0 a1 a2 k, LeO (spec_Do.f k a0 a1 a2) (spec_Do.f (k + 1) a0 a1 a2) := by
 intro a0 a1 a2 k
 have ih0 := spec_Do.mono_l k
 unfold spec_Do.f
 repeat' first
   | (with_reducible exact ih0 _ _ _ _)
   | (with_reducible exact LeO.refl _)
   | (with_reducible exact LeO.none _)
   | (with_reducible refine LeO.ite ?_ ?_)
   | (with_reducible refine LeO.bind ?_ (fun _ => ?_))
   | exact ih0 _ _ _ _
   | exact LeO.none _
   | refine LeO.ite ?_ ?_
   | refine LeO.bind ?_ (fun _ => ?_)
set_option maxHeartbeats 8000000 in
set_option maxRecDepth 100000 in
theorem spec_Do.calls (k : Nat) (A0_0 : Option Addr) (c0_0 : Nat) (l0_0 : List ByteArray) (A0_1 : Option Addr) (c0_1 : Nat) (l0_1 : List (S166)) (A1 : Option Addr) (c1 : Nat) (l1 : List (S168)) (r1 : List ByteArray) (r2 : List (S166)) (w : World) (hr0_0 : Kd.C Kd.string w A0_0 l0_0.length l0_0) (hc0_0 : l0_0.length ≤ c0_0) (hr0_1 : Kd.C k166 w A0_1 l0_1.length l0_1) (hc0_1 : l0_1.length ≤ c0_1) (hr1 : Kd.C k168 w A1 l1.length l1) (hc1 : l1.length ≤ c1) (h : spec_Do.f k l0_0 l0_1 l1 = some (r1, r2)) :
  Calls Try.prog 72 #[.agg #[.slice A0_0 l0_0.length c0_0, .slice A0_1 l0_1.length c0_1], .slice A1 l1.length c1] w fun e w' => ∃ v0_ v1_ : Value, e = .returned (.agg #[v0_, v1_]) ∧ Kd.R Kd.string 9 w' w.heap.size (fun _ => True) v0_ r1 ∧ Kd.R k166 166 w' w.heap.size (fun _ => True) v1_ r2 ∧ Below w.heap.size w w' := by
 have hu95 := Try.underlying95
 have hu168 := Try.underlying168
 have hu166 := Try.underlying166
 have HR0_0 := q_ hr0_0
 have HC0_0 := q_ hc0_0
 clear hr0_0 hc0_0
 have HR0_1 := q_ hr0_1
 have HC0_1 := q_ hc0_1
 clear hr0_1 hc0_1
 have HR1 := q_ hr1
 have HC1 := q_ hc1
 clear hr1 hc1
 have HB := q_ (Below.refl w.heap.size w)
 have H : ((spec_l6Copy.f l0_0 l0_1).bind fun bt203 => (spec_Do.l0 k l1 0 bt203.1 bt203.2)) = some (r1, r2) := h
 clear h
 replace H := Option.bind_eq_some_iff.mp H
 obtain ⟨⟨t203, t206⟩, A30, H⟩ := H
 replace H : (spec_Do.l0 k l1 0 t203 t206) = some (r1, r2) := H
 have A3 := q_ A30
 clear A30
 have H' := q_ H
 clear H
 go_enter Try.func72, Try.ntmps72
 go_wp2_with (first | ((with_reducible refine gate_dst (N := 2) rfl ?_); (try (refine gate_guard (by rfl) ?_; dsimp only)); refine box_event ?hg (N := 2) ?hd (cs := #[.slice A0_0 l0_0.length c0_0, .slice A0_1 l0_1.length c0_1]) (t := 95) ?hr ?_; (case hd => rfl); (case hg => rfl); (case hr => exact z177_); intro gb201 hg w4 hbox hb; have BK201 := q_ (hbox); have GW201 := q_ ((z141_ : w.heap.size ≤ gb201)); have GE201 := q_ ((z141_ : w.heap.size ≤ gb201)); replace HB := q_ (below_step z0_ hb); clear hb hbox hg) | ((with_reducible refine gate_dst (N := 4) rfl ?_); (try (refine gate_guard (by rfl) ?_; dsimp only)); refine box_event ?hg (N := 4) ?hd (cs := #[.slice none 0 0, .slice none 0 0]) (t := 95) ?hr ?_; (case hd => rfl); (case hg => rfl); (case hr => exact z177_); intro gb202 hg w5 hbox hb; have BK202 := q_ (hbox); have GW202 := q_ ((by rw [hg]; exact (below_size z98_) : w.heap.size ≤ gb202)); have GE202 := q_ ((by rw [hg]; exact (below_size z98_) : w.heap.size ≤ gb202)); replace HB := q_ (below_step z98_ hb); have NB201_202 := q_ ((by rw [hg]; exact Nat.ne_of_lt (blk_lt (g := gb201) (o := .cells #[.slice A0_0 l0_0.length c0_0, .slice A0_1 l0_1.length c0_1] 95 (0, 0)) z114_) : gb201 ≠ gb202)); have NB202_201 := q_ ((by rw [hg]; exact Nat.ne_of_gt (blk_lt (g := gb201) (o := .cells #[.slice A0_0 l0_0.length c0_0, .slice A0_1 l0_1.length c0_1] 95 (0, 0)) z114_) : gb202 ≠ gb201)); replace BK201 := q_ (blk_below (g := gb201) (o := .cells #[.slice A0_0 l0_0.length c0_0, .slice A0_1 l0_1.length c0_1] 95 (0, 0)) z114_ hb); clear hb hbox hg; have hnb6 := NB201_202.out; have hnc6 := NB202_201.out; obtain ⟨hcz7_0, hcz7_1, hfz7_0, hfz7_1⟩ := cs2_ BK201.out) | ((with_reducible refine gate_callee (f := 145) rfl ?_); refine goesL_ (some 9) rfl rfl Try.func145 (by kernel_rfl) rfl #[.agg #[.slice A0_0 l0_0.length c0_0, .slice A0_1 l0_1.length c0_1]] rfl z2_ ?_; (with_reducible refine (spec_l6Copy.calls _ _ l0_0 _ _ l0_1 t203 t206 _ ?side1 ?side2 ?side3 ?side4 A3.out).mono ?_); (case side1 => exact z178_); (case side2 => exact HC0_0.out); (case side3 => exact z179_); (case side4 => exact HC0_1.out); rintro e w8 ⟨v204, v207, rfl, ho0, ho1, hb⟩; refine ⟨_, rfl, ?_⟩; have HO205 := q_ (Kd.R_lower ho0 (below_size z53_)); have HO208 := q_ (Kd.R_lower ho1 (below_size z53_)); replace BK202 := q_ (blk_below (g := gb202) (o := .cells #[.slice none 0 0, .slice none 0 0] 95 (0, 0)) z6_ hb); replace HB := q_ (below_step z53_ hb); (try clear hb); (try clear hb2); (try clear hk); (try clear hi); (try clear ho0); (try clear ho1)) | ((with_reducible refine gate_dst (N := 5) rfl ?_); (try (refine gate_guard (by rfl) ?_; dsimp only)); refine box_event ?hg (N := 5) ?hd (cs := #[.slice none 0 0, .slice none 0 0]) (t := 95) ?hr ?_; (case hd => rfl); (case hg => rfl); (case hr => exact z177_); intro gb209 hg w9 hbox hb; replace HO205 := q_ (Kd.R_below (by (with_reducible repeat (first | apply Kd.R_alloc | apply Kd.R_drewN | apply Kd.R_drew)); exact HO205.out) hb); replace HO208 := q_ (Kd.R_below (by (with_reducible repeat (first | apply Kd.R_alloc | apply Kd.R_drewN | apply Kd.R_drew)); exact HO208.out) hb); have BK209 := q_ (hbox); have GW209 := q_ ((by rw [hg]; exact (below_size z53_) : w.heap.size ≤ gb209)); have GE209 := q_ ((by rw [hg]; exact (below_size z53_) : w.heap.size ≤ gb209)); replace HB := q_ (below_step z53_ hb); have NB202_209 := q_ ((z139_ : gb202 ≠ gb209)); have NB209_202 := q_ ((z140_ : gb209 ≠ gb202)); replace BK202 := q_ (blk_below (g := gb202) (o := .cells #[.slice none 0 0, .slice none 0 0] 95 (0, 0)) z6_ hb); clear hb hbox hg; obtain ⟨Ao10, co10, eo10⟩ := Kd.R_slice HO205.out; subst eo10; have hnb11 := NB209_202.out; have hnc11 := NB202_209.out; obtain ⟨hcz12_0, hcz12_1, hfz12_0, hfz12_1⟩ := cs2_ BK209.out; obtain ⟨Ao13, co13, eo13⟩ := Kd.R_slice HO208.out; subst eo13))
 go_loopg [6] k (fun kq v6 w' => ∃ (x6_1 : Int) (x210000_1 : List ByteArray) (x210001_1 : List (S166)) (u210000 : Value) (u210001 : Value), v6 = .int .i64 x6_1 ∧ Aside0 (spec_Do.l0 kq l1 x6_1 x210000_1 x210001_1 = some (r1, r2)) ∧ Aside0 (kq ≤ k) ∧ Aside0 (Kd.R Kd.string 9 w' w.heap.size (fun _ => True) u210000 x210000_1) ∧ Aside0 (Kd.R k166 166 w' w.heap.size (fun _ => True) u210001 x210001_1) ∧ Aside0 (w'.heap[gb202]? = some (.cells #[(.slice none 0 0), (.slice none 0 0)] 95 (0, 0))) ∧ Aside0 (w'.heap[gb209]? = some (.cells #[u210000, u210001] 95 (0, 0))) ∧ Aside0 (Below w.heap.size w w'))
 case atStart => exact ⟨(0), (t203), (t206), (.slice Ao10 t203.length co10), (.slice Ao13 t206.length co13), z14_, H', ⟨Nat.le_refl _⟩, ⟨by (with_reducible repeat (first | apply Kd.R_alloc | apply Kd.R_drewN | apply Kd.R_drew)); exact Kd.R_mono (Kd.R_far (p := ⟨gb209, 1, none⟩) (Kd.R_far (p := ⟨gb209, 0, none⟩) (Kd.R_types HO205.out BK209.out (by decide)) (fun _ hk => hk.2) (.slice Ao10 t203.length co10)) (fun _ hk => hk.2) (.slice Ao13 t206.length co13)) (fun _ hk => trivial)⟩, ⟨by (with_reducible repeat (first | apply Kd.R_alloc | apply Kd.R_drewN | apply Kd.R_drew)); exact Kd.R_mono (Kd.R_far (p := ⟨gb209, 1, none⟩) (Kd.R_far (p := ⟨gb209, 0, none⟩) (Kd.R_types HO208.out BK209.out (by decide)) (fun _ hk => hk.2) (.slice Ao10 t203.length co10)) (fun _ hk => hk.2) (.slice Ao13 t206.length co13)) (fun _ hk => trivial)⟩, ⟨by (with_reducible repeat (first | refine blk_drewN ?_ _ | refine blk_drew ?_ | refine blk_alloc ?_ _)); refine blk_far ?_ NB202_209.out _; (with_reducible repeat (first | refine blk_drewN ?_ _ | refine blk_drew ?_ | refine blk_alloc ?_ _)); refine blk_far ?_ NB202_209.out _; (with_reducible repeat (first | refine blk_drewN ?_ _ | refine blk_drew ?_ | refine blk_alloc ?_ _)); exact BK202.out⟩, ⟨by (with_reducible repeat (first | refine blk_drewN ?_ _ | refine blk_drew ?_ | refine blk_alloc ?_ _)); refine blk_put (cs := #[.slice Ao10 t203.length co10, .slice none 0 0]) ?_ 1 _ rfl; (with_reducible repeat (first | refine blk_drewN ?_ _ | refine blk_drew ?_ | refine blk_alloc ?_ _)); refine blk_put (cs := #[.slice none 0 0, .slice none 0 0]) ?_ 0 _ rfl; (with_reducible repeat (first | refine blk_drewN ?_ _ | refine blk_drew ?_ | refine blk_alloc ?_ _)); exact BK209.out⟩, ⟨z9_⟩⟩
 case round =>
  clear H'
  try clear c1
  try clear p2
  try clear c6
  try clear c7
  try clear c11
  try clear hcz12_0
  try clear hcz12_1
  try clear hcz7_0
  try clear hcz7_1
  try clear hfz12_0
  try clear hfz12_1
  try clear hfz7_0
  try clear hfz7_1
  obtain ⟨x6_1, x210000_1, x210001_1, u210000, u210001, rfl, HA, HK1, HO_210000, HO_210001, BK202, BK209, HB⟩ := hrel
  cases gk with
  | zero => exact absurd HA.out (by simp [spec_Do.l0])
  | succ k1 =>
   have H := HA.out
   clear HA
   simp only [spec_Do.l0] at H
   by_cases c14 : x6_1 < (l1.length : Int)
   ·rw [if_pos c14] at H
    have c14b0 : decide (x6_1 < (l1.length : Int)) = true := decide_eq_true c14
    clear c14
    by_cases c15 : 0 ≤ x6_1
    ·rw [if_pos c15] at H
     have c15b0 : decide (0 ≤ x6_1) = true := decide_eq_true c15
     clear c15
     replace H := Option.bind_eq_some_iff.mp H
     obtain ⟨t212, A160, H⟩ := H
     replace H : (if t212 = true then (if 0 ≤ ((rd_T168 l1 x6_1).f0) then (if ((rd_T168 l1 x6_1).f0) < (x210000_1.length : Int) then ((some (x210000_1.set (((rd_T168 l1 x6_1).f0) : Int).toNat ((rd_T168 l1 x6_1).f1) : List ByteArray)).bind fun y213 => (if ((rd_T168 l1 x6_1).f0) = (-1) then (if (wrap64 ((-1) - ((rd_T168 l1 x6_1).f0))) < (x210001_1.length : Int) then (if 0 ≤ (wrap64 ((-1) - ((rd_T168 l1 x6_1).f0))) then (spec_Do.l0 k1 l1 (wrap64 (x6_1 + 1)) y213 (x210001_1.set ((wrap64 ((-1) - ((rd_T168 l1 x6_1).f0))) : Int).toNat (⟨(rd_T168 l1 x6_1).f2.f0, (rd_T168 l1 x6_1).f2.f1⟩ : S166))) else (none)) else (spec_Do.l0 k1 l1 (wrap64 (x6_1 + 1)) y213 x210001_1)) else (if ((rd_T168 l1 x6_1).f0) = (-2) then (if (wrap64 ((-1) - ((rd_T168 l1 x6_1).f0))) < (x210001_1.length : Int) then (if 0 ≤ (wrap64 ((-1) - ((rd_T168 l1 x6_1).f0))) then (spec_Do.l0 k1 l1 (wrap64 (x6_1 + 1)) y213 (x210001_1.set ((wrap64 ((-1) - ((rd_T168 l1 x6_1).f0))) : Int).toNat (⟨(rd_T168 l1 x6_1).f2.f0, (rd_T168 l1 x6_1).f2.f1⟩ : S166))) else (none)) else (spec_Do.l0 k1 l1 (wrap64 (x6_1 + 1)) y213 x210001_1)) else (spec_Do.l0 k1 l1 (wrap64 (x6_1 + 1)) y213 x210001_1)))) else (none)) else (none)) else (if ((rd_T168 l1 x6_1).f0) = (-1) then (if (wrap64 ((-1) - ((rd_T168 l1 x6_1).f0))) < (x210001_1.length : Int) then (if 0 ≤ (wrap64 ((-1) - ((rd_T168 l1 x6_1).f0))) then (spec_Do.l0 k1 l1 (wrap64 (x6_1 + 1)) x210000_1 (x210001_1.set ((wrap64 ((-1) - ((rd_T168 l1 x6_1).f0))) : Int).toNat (⟨(rd_T168 l1 x6_1).f2.f0, (rd_T168 l1 x6_1).f2.f1⟩ : S166))) else (none)) else (spec_Do.l0 k1 l1 (wrap64 (x6_1 + 1)) x210000_1 x210001_1)) else (if ((rd_T168 l1 x6_1).f0) = (-2) then (if (wrap64 ((-1) - ((rd_T168 l1 x6_1).f0))) < (x210001_1.length : Int) then (if 0 ≤ (wrap64 ((-1) - ((rd_T168 l1 x6_1).f0))) then (spec_Do.l0 k1 l1 (wrap64 (x6_1 + 1)) x210000_1 (x210001_1.set ((wrap64 ((-1) - ((rd_T168 l1 x6_1).f0))) : Int).toNat (⟨(rd_T168 l1 x6_1).f2.f0, (rd_T168 l1 x6_1).f2.f1⟩ : S166))) else (none)) else (spec_Do.l0 k1 l1 (wrap64 (x6_1 + 1)) x210000_1 x210001_1)) else (spec_Do.l0 k1 l1 (wrap64 (x6_1 + 1)) x210000_1 x210001_1)))) = some (r1, r2) := H
     have A16 := q_ A160
     clear A160
     by_cases c17 : t212 = true
     ·subst c17
      have H1 : (if 0 ≤ ((rd_T168 l1 x6_1).f0) then (if ((rd_T168 l1 x6_1).f0) < (x210000_1.length : Int) then ((some (x210000_1.set (((rd_T168 l1 x6_1).f0) : Int).toNat ((rd_T168 l1 x6_1).f1) : List ByteArray)).bind fun y213 => (if ((rd_T168 l1 x6_1).f0) = (-1) then (if (wrap64 ((-1) - ((rd_T168 l1 x6_1).f0))) < (x210001_1.length : Int) then (if 0 ≤ (wrap64 ((-1) - ((rd_T168 l1 x6_1).f0))) then (spec_Do.l0 k1 l1 (wrap64 (x6_1 + 1)) y213 (x210001_1.set ((wrap64 ((-1) - ((rd_T168 l1 x6_1).f0))) : Int).toNat (⟨(rd_T168 l1 x6_1).f2.f0, (rd_T168 l1 x6_1).f2.f1⟩ : S166))) else (none)) else (spec_Do.l0 k1 l1 (wrap64 (x6_1 + 1)) y213 x210001_1)) else (if ((rd_T168 l1 x6_1).f0) = (-2) then (if (wrap64 ((-1) - ((rd_T168 l1 x6_1).f0))) < (x210001_1.length : Int) then (if 0 ≤ (wrap64 ((-1) - ((rd_T168 l1 x6_1).f0))) then (spec_Do.l0 k1 l1 (wrap64 (x6_1 + 1)) y213 (x210001_1.set ((wrap64 ((-1) - ((rd_T168 l1 x6_1).f0))) : Int).toNat (⟨(rd_T168 l1 x6_1).f2.f0, (rd_T168 l1 x6_1).f2.f1⟩ : S166))) else (none)) else (spec_Do.l0 k1 l1 (wrap64 (x6_1 + 1)) y213 x210001_1)) else (spec_Do.l0 k1 l1 (wrap64 (x6_1 + 1)) y213 x210001_1)))) else (none)) else (none)) = some (r1, r2) := z90_
      clear H
      have H := H1
      clear H1
      by_cases c18 : 0 ≤ ((rd_T168 l1 x6_1).f0)
      ·rw [if_pos c18] at H
       have c18b0 : decide (0 ≤ ((rd_T168 l1 x6_1).f0)) = true := decide_eq_true c18
       clear c18
       by_cases c19 : ((rd_T168 l1 x6_1).f0) < (x210000_1.length : Int)
       ·rw [if_pos c19] at H
        have c19b0 : decide (((rd_T168 l1 x6_1).f0) < (x210000_1.length : Int)) = true := decide_eq_true c19
        clear c19
        obtain ⟨y213, hy_⟩ : ∃ y_ : List ByteArray, y_ = (x210000_1.set (((rd_T168 l1 x6_1).f0) : Int).toNat ((rd_T168 l1 x6_1).f1)) := ⟨_, rfl⟩
        replace H : (if ((rd_T168 l1 x6_1).f0) = (-1) then (if (wrap64 ((-1) - ((rd_T168 l1 x6_1).f0))) < (x210001_1.length : Int) then (if 0 ≤ (wrap64 ((-1) - ((rd_T168 l1 x6_1).f0))) then (spec_Do.l0 k1 l1 (wrap64 (x6_1 + 1)) y213 (x210001_1.set ((wrap64 ((-1) - ((rd_T168 l1 x6_1).f0))) : Int).toNat (⟨(rd_T168 l1 x6_1).f2.f0, (rd_T168 l1 x6_1).f2.f1⟩ : S166))) else (none)) else (spec_Do.l0 k1 l1 (wrap64 (x6_1 + 1)) y213 x210001_1)) else (if ((rd_T168 l1 x6_1).f0) = (-2) then (if (wrap64 ((-1) - ((rd_T168 l1 x6_1).f0))) < (x210001_1.length : Int) then (if 0 ≤ (wrap64 ((-1) - ((rd_T168 l1 x6_1).f0))) then (spec_Do.l0 k1 l1 (wrap64 (x6_1 + 1)) y213 (x210001_1.set ((wrap64 ((-1) - ((rd_T168 l1 x6_1).f0))) : Int).toNat (⟨(rd_T168 l1 x6_1).f2.f0, (rd_T168 l1 x6_1).f2.f1⟩ : S166))) else (none)) else (spec_Do.l0 k1 l1 (wrap64 (x6_1 + 1)) y213 x210001_1)) else (spec_Do.l0 k1 l1 (wrap64 (x6_1 + 1)) y213 x210001_1))) = some (r1, r2) := z3_
        have Ny213 := q_ hy_
        clear hy_
        by_cases c21 : ((rd_T168 l1 x6_1).f0) = (-1)
        ·rw [if_pos c21] at H
         have c21b0 : (((rd_T168 l1 x6_1).f0) == (-1)) = true := beq_iff_eq.mpr c21
         have c21b1 : (((rd_T168 l1 x6_1).f0) != (-1)) = false := bne_eq_false_iff_eq.mpr c21
         clear c21
         by_cases c22 : (wrap64 ((-1) - ((rd_T168 l1 x6_1).f0))) < (x210001_1.length : Int)
         ·rw [if_pos c22] at H
          have c22b0 : decide ((wrap64 ((-1) - ((rd_T168 l1 x6_1).f0))) < (x210001_1.length : Int)) = true := decide_eq_true c22
          clear c22
          obtain ⟨ji23, hji23⟩ : ∃ j_ : Int, (wrap64 ((-1) - ((rd_T168 l1 x6_1).f0))) = j_ := ⟨_, rfl⟩
          replace H : (if 0 ≤ (ji23) then (spec_Do.l0 k1 l1 (wrap64 (x6_1 + 1)) y213 (x210001_1.set ((ji23) : Int).toNat (⟨(rd_T168 l1 x6_1).f2.f0, (rd_T168 l1 x6_1).f2.f1⟩ : S166))) else (none)) = some (r1, r2) := z136_
          (try rw [hji23] at c22b0)
          (try rw [hji23] at A16)
          have hji23w : (IntKind.i64.wrap ((-1) - ((rd_T168 l1 x6_1).f0))) = ji23 := (i64_w _).trans hji23
          by_cases c24 : 0 ≤ (ji23)
          ·rw [if_pos c24] at H
           have c24b0 : decide (0 ≤ (ji23)) = true := decide_eq_true c24
           clear c24
           obtain ⟨y214, hy_⟩ : ∃ y_ : List (S166), y_ = (x210001_1.set ((ji23) : Int).toNat (⟨(rd_T168 l1 x6_1).f2.f0, (rd_T168 l1 x6_1).f2.f1⟩ : S166)) := ⟨_, rfl⟩
           replace H : (spec_Do.l0 k1 l1 (wrap64 (x6_1 + 1)) y213 y214) = some (r1, r2) := z3_
           have Ny214 := q_ hy_
           clear hy_
           have H' := q_ H
           clear H
           have p210 : 0 ≤ (x6_1 : Int) := of_decide_eq_true z1_
           have q210 : x6_1 < (l1.length : Int) := of_decide_eq_true z1_
           obtain ⟨ad210, e210, hx210_0, hx210_1, hx210_2, hx210_3⟩ := at_T168 HR1.out x6_1 p210 q210
           cases e210
           replace hx210_0 := up_ HB hx210_0
           replace hx210_1 := up_ HB hx210_1
           replace hx210_2 := up_ HB hx210_2
           replace hx210_3 := up_ HB hx210_3
           replace p210 := eq_true p210
           replace q210 := eq_true q210
           go_wp2_with (first | ((with_reducible refine gate_dst (N := 7) rfl ?_); (try (refine gate_guard (by rfl) ?_; dsimp only)); refine box_event ?hg (N := 7) ?hd (cs := #[.int .i64 0, .string (⟨#[]⟩ : ByteArray), .int .i64 0, .int .i64 0]) (t := 168) ?hr ?_; (case hd => rfl); (case hg => rfl); (case hr => exact z177_); intro gb211 hg w26 hbox hb; replace HO_210000 := q_ (Kd.R_below z21_ hb); replace HO_210001 := q_ (Kd.R_below z18_ hb); have BK211 := q_ (hbox); have GW211 := q_ ((z145_ : w.heap.size ≤ gb211)); have GE211 := q_ ((z145_ : w.heap.size ≤ gb211)); replace HB := q_ (below_step z9_ hb); have NB202_211 := q_ ((z139_ : gb202 ≠ gb211)); have NB211_202 := q_ ((z140_ : gb211 ≠ gb202)); replace BK202 := q_ (blk_below (g := gb202) (o := .cells #[.slice none 0 0, .slice none 0 0] 95 (0, 0)) z6_ hb); have NB209_211 := q_ ((z142_ : gb209 ≠ gb211)); have NB211_209 := q_ ((z143_ : gb211 ≠ gb209)); replace BK209 := q_ (blk_below (g := gb209) (o := .cells #[u210000, u210001] 95 (0, 0)) z10_ hb); clear hb hbox hg; have hnb27 := NB211_202.out; have hnc27 := NB202_211.out; have hnb28 := NB211_209.out; have hnc28 := NB209_211.out; obtain ⟨hcz29_0, hcz29_1, hcz29_2, hcz29_3, hfz29_0, hfz29_1, hfz29_2, hfz29_3⟩ := cs4_ BK211.out) | ((with_reducible refine gate_store (t := 168) (p := 7) rfl ?_); refine store_event (t := 168) (p := 7) (v := ?vo_w30) (w1 := ((((w26.setCell ⟨gb211, 0, none⟩ (.int .i64 ((rd_T168 l1 x6_1).f0))).setCell ⟨gb211, 1, none⟩ (.string ((rd_T168 l1 x6_1).f1))).setCell ⟨gb211, 2, none⟩ (.int .i64 ((rd_T168 l1 x6_1).f2.f0))).setCell ⟨gb211, 3, none⟩ (.int .i64 ((rd_T168 l1 x6_1).f2.f1)))) ?hg ?ho ?hn ?hr ?_; (case ho => rfl); (case hg => rfl); (case hn => rfl); (case hr => exact z177_); intro w30 hw; have n0_ : Aside0 (Kd.R Kd.string 9 w30 w.heap.size (fun _ => True) u210000 x210000_1) := ⟨(by rw [hw]; exact (by (with_reducible repeat (first | apply Kd.R_alloc | apply Kd.R_drewN | apply Kd.R_drew)); exact Kd.R_mono (Kd.R_far (p := ⟨gb211, 3, none⟩) (Kd.R_far (p := ⟨gb211, 2, none⟩) (Kd.R_far (p := ⟨gb211, 1, none⟩) (Kd.R_far (p := ⟨gb211, 0, none⟩) (Kd.R_types HO_210000.out BK211.out (by decide)) (fun _ hk => hk.2) (.int .i64 ((rd_T168 l1 x6_1).f0))) (fun _ hk => hk.2) (.string ((rd_T168 l1 x6_1).f1))) (fun _ hk => hk.2) (.int .i64 ((rd_T168 l1 x6_1).f2.f0))) (fun _ hk => hk.2) (.int .i64 ((rd_T168 l1 x6_1).f2.f1))) (fun _ hk => trivial)))⟩; have n1_ : Aside0 (Kd.R k166 166 w30 w.heap.size (fun _ => True) u210001 x210001_1) := ⟨(by rw [hw]; exact (by (with_reducible repeat (first | apply Kd.R_alloc | apply Kd.R_drewN | apply Kd.R_drew)); exact Kd.R_mono (Kd.R_far (p := ⟨gb211, 3, none⟩) (Kd.R_far (p := ⟨gb211, 2, none⟩) (Kd.R_far (p := ⟨gb211, 1, none⟩) (Kd.R_far (p := ⟨gb211, 0, none⟩) (Kd.R_types HO_210001.out BK211.out (by decide)) (fun _ hk => hk.2) (.int .i64 ((rd_T168 l1 x6_1).f0))) (fun _ hk => hk.2) (.string ((rd_T168 l1 x6_1).f1))) (fun _ hk => hk.2) (.int .i64 ((rd_T168 l1 x6_1).f2.f0))) (fun _ hk => hk.2) (.int .i64 ((rd_T168 l1 x6_1).f2.f1))) (fun _ hk => trivial)))⟩; have n2_ : Aside0 (w30.heap[gb202]? = some (.cells #[.slice none 0 0, .slice none 0 0] 95 (0, 0))) := ⟨z174_⟩; have n3_ : Aside0 (w30.heap[gb209]? = some (.cells #[u210000, u210001] 95 (0, 0))) := ⟨z175_⟩; have n4_ : Aside0 (w30.heap[gb211]? = some (.cells #[.int .i64 ((rd_T168 l1 x6_1).f0), .string ((rd_T168 l1 x6_1).f1), .int .i64 ((rd_T168 l1 x6_1).f2.f0), .int .i64 ((rd_T168 l1 x6_1).f2.f1)] 168 (0, 0))) := ⟨z176_⟩; have n5_ : Aside0 (Below w.heap.size w w30) := ⟨z173_⟩; clear hw; clear HO_210000; clear HO_210001; clear BK202; clear BK209; clear BK211; clear HB; have HO_210000 := n0_; have HO_210001 := n1_; have BK202 := n2_; have BK209 := n3_; have BK211 := n4_; have HB := n5_; clear n0_ n1_ n2_ n3_ n4_ n5_; obtain ⟨hcz31_0, hcz31_1, hcz31_2, hcz31_3, hfz31_0, hfz31_1, hfz31_2, hfz31_3⟩ := cs4_ BK211.out; have hnb32 := NB209_202.out; have hnc32 := NB202_209.out; obtain ⟨hcz33_0, hcz33_1, hfz33_0, hfz33_1⟩ := cs2_ BK209.out; obtain ⟨Ao34, co34, eo34⟩ := Kd.R_slice HO_210000.out; subst eo34) | ((with_reducible refine gate_callee (f := 106) rfl ?_); refine goesL_ (some 26) rfl rfl Try.func106 (by kernel_rfl) rfl #[.int .i64 ((rd_T168 l1 x6_1).f0), .int .i64 0, .int .i64 (wrap64 ((x210000_1.length : Int) - 1))] rfl z2_ ?_; (with_reducible refine (spec_l1In.calls ((rd_T168 l1 x6_1).f0) 0 (wrap64 ((x210000_1.length : Int) - 1)) true _ A16.out).mono ?_); rintro e w' ⟨rfl, ⟨nd, rfl⟩⟩; refine ⟨_, rfl, ?_⟩; (try (rw [drewN_self w30]; generalize hq_ : World.drewN w30 _ = w30; have n0_ : Aside0 (Kd.R Kd.string 9 w30 w.heap.size (fun _ => True) (.slice Ao34 x210000_1.length co34) x210000_1) := ⟨z167_⟩; have n1_ : Aside0 (Kd.R k166 166 w30 w.heap.size (fun _ => True) u210001 x210001_1) := ⟨z168_⟩; have n2_ : Aside0 (w30.heap[gb202]? = some (.cells #[.slice none 0 0, .slice none 0 0] 95 (0, 0))) := ⟨z172_⟩; have n3_ : Aside0 (w30.heap[gb209]? = some (.cells #[.slice Ao34 x210000_1.length co34, u210001] 95 (0, 0))) := ⟨z169_⟩; have n4_ : Aside0 (w30.heap[gb211]? = some (.cells #[.int .i64 ((rd_T168 l1 x6_1).f0), .string ((rd_T168 l1 x6_1).f1), .int .i64 ((rd_T168 l1 x6_1).f2.f0), .int .i64 ((rd_T168 l1 x6_1).f2.f1)] 168 (0, 0))) := ⟨z170_⟩; have n5_ : Aside0 (Below w.heap.size w w30) := ⟨z171_⟩; clear HO_210000 HO_210001 BK202 BK209 BK211 HB hq_; have HO_210000 := n0_; have HO_210001 := n1_; have BK202 := n2_; have BK209 := n3_; have BK211 := n4_; have HB := n5_; clear n0_ n1_ n2_ n3_ n4_ n5_)); obtain ⟨hcq202_0, hcq202_1, hfq202_0, hfq202_1⟩ := cs2_ BK202.out; obtain ⟨hcq209_0, hcq209_1, hfq209_0, hfq209_1⟩ := cs2_ BK209.out; obtain ⟨hcq211_0, hcq211_1, hcq211_2, hcq211_3, hfq211_0, hfq211_1, hfq211_2, hfq211_3⟩ := cs4_ BK211.out; have p20 : 0 ≤ (((rd_T168 l1 x6_1).f0) : Int) := of_decide_eq_true z1_; have q20 : (((rd_T168 l1 x6_1).f0) : Int) < ((x210000_1.length : Int) : Int) := of_decide_eq_true z1_; obtain ⟨go20, co20, eo20, gb20, gl20, cl20, HG20⟩ := Kd.R_form HO_210000.out (by omega); (first | cases eo20 | (injection eo20 with ea_ en_ ec_; (first | subst ea_ | (injection ea_ with ea_; subst ea_)); subst ec_; clear en_)); have GB20 := q_ gb20; have GG20 := q_ HG20; clear gb20 gl20 HG20; obtain ⟨hx20_0, hf20_0⟩ := Kd.R_celln (⟨#[]⟩ : ByteArray) HO_210000.out (((rd_T168 l1 x6_1).f0) : Int) p20 q20; replace p20 := eq_true p20; replace q20 := eq_true q20; obtain ⟨hy35_, hz35_⟩ := Kd.R_celln (⟨#[]⟩ : ByteArray) HO_210000.out (((rd_T168 l1 x6_1).f0) : Int) (of_decide_eq_true z1_) (of_decide_eq_true z1_); have HP35 := Kd.R_putg HO_210000.out (((rd_T168 l1 x6_1).f0) : Int) ((rd_T168 l1 x6_1).f1)) | ((with_reducible refine gate_store (t := 9) (p := 33) rfl ?_); refine store_event (t := 9) (p := 33) (v := ?vo_w36) (w1 := (w30.setCell ⟨go20, (((rd_T168 l1 x6_1).f0) : Int).toNat, none⟩ (.string ((rd_T168 l1 x6_1).f1)))) ?hg ?ho ?hn ?hr ?_; (case ho => rfl); (case hg => rfl); (case hn => rfl); (case hr => exact z177_); intro w36 hw; have hg : w30.grownBy w36 (some go20) := (by rw [hw]; exact HP35.2); have hp_ : Kd.R Kd.string 9 w36 w.heap.size (fun _ => True) (.slice (some ⟨go20, 0, none⟩) x210000_1.length co34) y213 := (by rw [hw, Ny213.out]; exact HP35.1); clear HP35; replace HO_210001 := q_ (Kd.R_over' (v := (.slice (some ⟨go20, 0, none⟩) x210000_1.length co34)) z18_ (Kd.R_typed HO_210000.out) (by decide) hg); replace BK202 := q_ (blk_grown (g := gb202) (o := .cells #[.slice none 0 0, .slice none 0 0] 95 (0, 0)) z6_ hg (Kd.R_ne HO_210000.out BK202.out (by decide))); replace BK209 := q_ (blk_grown (g := gb209) (o := .cells #[.slice (some ⟨go20, 0, none⟩) x210000_1.length co34, u210001] 95 (0, 0)) z10_ hg (Kd.R_ne HO_210000.out BK209.out (by decide))); replace BK211 := q_ (blk_grown (g := gb211) (o := .cells #[.int .i64 ((rd_T168 l1 x6_1).f0), .string ((rd_T168 l1 x6_1).f1), .int .i64 ((rd_T168 l1 x6_1).f2.f0), .int .i64 ((rd_T168 l1 x6_1).f2.f1)] 168 (0, 0)) z33_ hg (Kd.R_ne HO_210000.out BK211.out (by decide))); replace HO_210000 := q_ (hp_); replace HB := q_ ((z135_ : Below w.heap.size w w36)); clear hg hw hp_; obtain ⟨hcz37_0, hcz37_1, hcz37_2, hcz37_3, hfz37_0, hfz37_1, hfz37_2, hfz37_3⟩ := cs4_ BK211.out; obtain ⟨hcz38_0, hcz38_1, hfz38_0, hfz38_1⟩ := cs2_ BK209.out; obtain ⟨Ao39, co39, eo39⟩ := Kd.R_slice HO_210001.out; subst eo39; have p25 : 0 ≤ ((ji23) : Int) := of_decide_eq_true z1_; have q25 : ((ji23) : Int) < ((x210001_1.length : Int) : Int) := of_decide_eq_true z1_; obtain ⟨go25, co25, eo25, gb25, gl25, cl25, HG25⟩ := Kd.R_form HO_210001.out (by omega); (first | cases eo25 | (injection eo25 with ea_ en_ ec_; (first | subst ea_ | (injection ea_ with ea_; subst ea_)); subst ec_; clear en_)); have GB25 := q_ gb25; have GG25 := q_ HG25; clear gb25 gl25 HG25; obtain ⟨ce25, hcl25, hM25, hcc25, hfr25⟩ := Kd.R_elem HO_210001.out z166 ((ji23) : Int) p25 q25; obtain rfl := k166_openM hM25; have hx25_0 : w36.cell? ⟨go25, ((ji23) : Int).toNat * 2, none⟩ = some (.int .i64 ((rd_T166 x210001_1 (ji23)).f0)) := hcc25 0 _ rfl; have hx25_1 : w36.cell? ⟨go25, ((ji23) : Int).toNat * 2 + 1, none⟩ = some (.int .i64 ((rd_T166 x210001_1 (ji23)).f1)) := hcc25 1 _ rfl; have hf25_0 : w36.frozen? ⟨go25, ((ji23) : Int).toNat * 2, none⟩ = false := hfr25 0; have hf25_1 : w36.frozen? ⟨go25, ((ji23) : Int).toNat * 2 + 1, none⟩ = false := hfr25 1; clear hcl25 hcc25 hfr25 hM25; replace p25 := eq_true p25; replace q25 := eq_true q25; have HX40 := q_ (show Kd.R k166 166 w36 w.heap.size (fun _ => True) (.slice (some ⟨go25, 0, none⟩) x210001_1.length co39) x210001_1 from z18_); obtain ⟨ce40, hcl40, hM40, hcc40, hfr40⟩ := Kd.R_elem HX40.out z166 ((ji23) : Int) (of_decide_eq_true z1_) z153_; obtain rfl := k166_openM hM40; have HP40 := Kd.R_seg HX40.out ((ji23) : Int) (of_decide_eq_true z1_) z153_ (seg := [.int .i64 ((rd_T168 l1 x6_1).f2.f0), .int .i64 ((rd_T168 l1 x6_1).f2.f1)]) (j := 0) hcl40 hcc40 (show 2 ≤ 2 from by decide) (x' := (⟨(rd_T168 l1 x6_1).f2.f0, (rd_T168 l1 x6_1).f2.f1⟩ : S166)) (k166_mkM _ _ _ (⟨(rd_T168 l1 x6_1).f2.f0, (rd_T168 l1 x6_1).f2.f1⟩ : S166) ) (fun _ hk => hk); have hx40_0 := hcc40 0 _ rfl; (try simp only [show (k166).sz = 2 from rfl, Nat.mul_one, Nat.add_zero] at hx40_0); have hf40_0 := hfr40 0; (try simp only [show (k166).sz = 2 from rfl, Nat.mul_one, Nat.add_zero] at hf40_0); have hx40_1 := hcc40 1 _ rfl; (try simp only [show (k166).sz = 2 from rfl, Nat.mul_one, Nat.add_zero] at hx40_1); have hf40_1 := hfr40 1; (try simp only [show (k166).sz = 2 from rfl, Nat.mul_one, Nat.add_zero] at hf40_1); clear hcl40 hcc40 hfr40 hM40) | ((with_reducible refine gate_store (t := 166) (p := 58) rfl ?_); refine store_event (t := 166) (p := 58) (v := ?vo_w41) (w1 := ((w36.setCell ⟨go25, ((ji23) : Int).toNat * 2, none⟩ (.int .i64 ((rd_T168 l1 x6_1).f2.f0))).setCell ⟨go25, ((ji23) : Int).toNat * 2 + 1, none⟩ (.int .i64 ((rd_T168 l1 x6_1).f2.f1)))) ?hg ?ho ?hn ?hr ?_; (case ho => rfl); (case hg => rfl); (case hn => rfl); (case hr => exact z177_); intro w41 hw; have hg : w36.grownBy w41 (some go25) := (by rw [hw]; exact HP40.2); have hp_ : Kd.R k166 166 w41 w.heap.size (fun _ => True) (.slice (some ⟨go25, 0, none⟩) x210001_1.length co39) y214 := (by rw [hw, Ny214.out]; exact HP40.1); clear HP40; replace HO_210000 := q_ (Kd.R_over' (v := (.slice (some ⟨go25, 0, none⟩) x210001_1.length co39)) z21_ (Kd.R_typed HO_210001.out) (by decide) hg); replace BK202 := q_ (blk_grown (g := gb202) (o := .cells #[.slice none 0 0, .slice none 0 0] 95 (0, 0)) z6_ hg (Kd.R_ne HO_210001.out BK202.out (by decide))); replace BK209 := q_ (blk_grown (g := gb209) (o := .cells #[.slice (some ⟨go20, 0, none⟩) x210000_1.length co34, .slice (some ⟨go25, 0, none⟩) x210001_1.length co39] 95 (0, 0)) z10_ hg (Kd.R_ne HO_210001.out BK209.out (by decide))); replace BK211 := q_ (blk_grown (g := gb211) (o := .cells #[.int .i64 ((rd_T168 l1 x6_1).f0), .string ((rd_T168 l1 x6_1).f1), .int .i64 ((rd_T168 l1 x6_1).f2.f0), .int .i64 ((rd_T168 l1 x6_1).f2.f1)] 168 (0, 0)) z33_ hg (Kd.R_ne HO_210001.out BK211.out (by decide))); replace HO_210001 := q_ (hp_); replace HB := q_ ((by rw [hw]; exact below_set (below_set (HB.out) GB25.out) GB25.out : Below w.heap.size w w41)); clear hg hw hp_))
           go_roundg k1
           case measure => have := HK1.out; omega
           case rel => exact ⟨(wrap64 (x6_1 + 1)), (y213), (y214), (.slice (some ⟨go20, 0, none⟩) x210000_1.length co34), (.slice (some ⟨go25, 0, none⟩) x210001_1.length co39), z14_, H', ⟨z70_⟩, ⟨z21_⟩, ⟨z18_⟩, ⟨z6_⟩, ⟨z10_⟩, ⟨z11_⟩⟩
          ·rw [if_neg c24] at H
           exact absurd H (by simp)
         ·rw [if_neg c22] at H
          have c22b0 : decide ((wrap64 ((-1) - ((rd_T168 l1 x6_1).f0))) < (x210001_1.length : Int)) = false := decide_eq_false c22
          clear c22
          have H' := q_ H
          clear H
          have p210 : 0 ≤ (x6_1 : Int) := of_decide_eq_true z1_
          have q210 : x6_1 < (l1.length : Int) := of_decide_eq_true z1_
          obtain ⟨ad210, e210, hx210_0, hx210_1, hx210_2, hx210_3⟩ := at_T168 HR1.out x6_1 p210 q210
          cases e210
          replace hx210_0 := up_ HB hx210_0
          replace hx210_1 := up_ HB hx210_1
          replace hx210_2 := up_ HB hx210_2
          replace hx210_3 := up_ HB hx210_3
          replace p210 := eq_true p210
          replace q210 := eq_true q210
          go_wp2_with (first | ((with_reducible refine gate_dst (N := 7) rfl ?_); (try (refine gate_guard (by rfl) ?_; dsimp only)); refine box_event ?hg (N := 7) ?hd (cs := #[.int .i64 0, .string (⟨#[]⟩ : ByteArray), .int .i64 0, .int .i64 0]) (t := 168) ?hr ?_; (case hd => rfl); (case hg => rfl); (case hr => exact z177_); intro gb211 hg w42 hbox hb; replace HO_210000 := q_ (Kd.R_below z21_ hb); replace HO_210001 := q_ (Kd.R_below z18_ hb); have BK211 := q_ (hbox); have GW211 := q_ ((z145_ : w.heap.size ≤ gb211)); have GE211 := q_ ((z145_ : w.heap.size ≤ gb211)); replace HB := q_ (below_step z9_ hb); have NB202_211 := q_ ((z139_ : gb202 ≠ gb211)); have NB211_202 := q_ ((z140_ : gb211 ≠ gb202)); replace BK202 := q_ (blk_below (g := gb202) (o := .cells #[.slice none 0 0, .slice none 0 0] 95 (0, 0)) z6_ hb); have NB209_211 := q_ ((z142_ : gb209 ≠ gb211)); have NB211_209 := q_ ((z143_ : gb211 ≠ gb209)); replace BK209 := q_ (blk_below (g := gb209) (o := .cells #[u210000, u210001] 95 (0, 0)) z10_ hb); clear hb hbox hg; have hnb43 := NB211_202.out; have hnc43 := NB202_211.out; have hnb44 := NB211_209.out; have hnc44 := NB209_211.out; obtain ⟨hcz45_0, hcz45_1, hcz45_2, hcz45_3, hfz45_0, hfz45_1, hfz45_2, hfz45_3⟩ := cs4_ BK211.out) | ((with_reducible refine gate_store (t := 168) (p := 7) rfl ?_); refine store_event (t := 168) (p := 7) (v := ?vo_w46) (w1 := ((((w42.setCell ⟨gb211, 0, none⟩ (.int .i64 ((rd_T168 l1 x6_1).f0))).setCell ⟨gb211, 1, none⟩ (.string ((rd_T168 l1 x6_1).f1))).setCell ⟨gb211, 2, none⟩ (.int .i64 ((rd_T168 l1 x6_1).f2.f0))).setCell ⟨gb211, 3, none⟩ (.int .i64 ((rd_T168 l1 x6_1).f2.f1)))) ?hg ?ho ?hn ?hr ?_; (case ho => rfl); (case hg => rfl); (case hn => rfl); (case hr => exact z177_); intro w46 hw; have n0_ : Aside0 (Kd.R Kd.string 9 w46 w.heap.size (fun _ => True) u210000 x210000_1) := ⟨(by rw [hw]; exact (by (with_reducible repeat (first | apply Kd.R_alloc | apply Kd.R_drewN | apply Kd.R_drew)); exact Kd.R_mono (Kd.R_far (p := ⟨gb211, 3, none⟩) (Kd.R_far (p := ⟨gb211, 2, none⟩) (Kd.R_far (p := ⟨gb211, 1, none⟩) (Kd.R_far (p := ⟨gb211, 0, none⟩) (Kd.R_types HO_210000.out BK211.out (by decide)) (fun _ hk => hk.2) (.int .i64 ((rd_T168 l1 x6_1).f0))) (fun _ hk => hk.2) (.string ((rd_T168 l1 x6_1).f1))) (fun _ hk => hk.2) (.int .i64 ((rd_T168 l1 x6_1).f2.f0))) (fun _ hk => hk.2) (.int .i64 ((rd_T168 l1 x6_1).f2.f1))) (fun _ hk => trivial)))⟩; have n1_ : Aside0 (Kd.R k166 166 w46 w.heap.size (fun _ => True) u210001 x210001_1) := ⟨(by rw [hw]; exact (by (with_reducible repeat (first | apply Kd.R_alloc | apply Kd.R_drewN | apply Kd.R_drew)); exact Kd.R_mono (Kd.R_far (p := ⟨gb211, 3, none⟩) (Kd.R_far (p := ⟨gb211, 2, none⟩) (Kd.R_far (p := ⟨gb211, 1, none⟩) (Kd.R_far (p := ⟨gb211, 0, none⟩) (Kd.R_types HO_210001.out BK211.out (by decide)) (fun _ hk => hk.2) (.int .i64 ((rd_T168 l1 x6_1).f0))) (fun _ hk => hk.2) (.string ((rd_T168 l1 x6_1).f1))) (fun _ hk => hk.2) (.int .i64 ((rd_T168 l1 x6_1).f2.f0))) (fun _ hk => hk.2) (.int .i64 ((rd_T168 l1 x6_1).f2.f1))) (fun _ hk => trivial)))⟩; have n2_ : Aside0 (w46.heap[gb202]? = some (.cells #[.slice none 0 0, .slice none 0 0] 95 (0, 0))) := ⟨z174_⟩; have n3_ : Aside0 (w46.heap[gb209]? = some (.cells #[u210000, u210001] 95 (0, 0))) := ⟨z175_⟩; have n4_ : Aside0 (w46.heap[gb211]? = some (.cells #[.int .i64 ((rd_T168 l1 x6_1).f0), .string ((rd_T168 l1 x6_1).f1), .int .i64 ((rd_T168 l1 x6_1).f2.f0), .int .i64 ((rd_T168 l1 x6_1).f2.f1)] 168 (0, 0))) := ⟨z176_⟩; have n5_ : Aside0 (Below w.heap.size w w46) := ⟨z173_⟩; clear hw; clear HO_210000; clear HO_210001; clear BK202; clear BK209; clear BK211; clear HB; have HO_210000 := n0_; have HO_210001 := n1_; have BK202 := n2_; have BK209 := n3_; have BK211 := n4_; have HB := n5_; clear n0_ n1_ n2_ n3_ n4_ n5_; obtain ⟨hcz47_0, hcz47_1, hcz47_2, hcz47_3, hfz47_0, hfz47_1, hfz47_2, hfz47_3⟩ := cs4_ BK211.out; have hnb48 := NB209_202.out; have hnc48 := NB202_209.out; obtain ⟨hcz49_0, hcz49_1, hfz49_0, hfz49_1⟩ := cs2_ BK209.out; obtain ⟨Ao50, co50, eo50⟩ := Kd.R_slice HO_210000.out; subst eo50) | ((with_reducible refine gate_callee (f := 106) rfl ?_); refine goesL_ (some 26) rfl rfl Try.func106 (by kernel_rfl) rfl #[.int .i64 ((rd_T168 l1 x6_1).f0), .int .i64 0, .int .i64 (wrap64 ((x210000_1.length : Int) - 1))] rfl z2_ ?_; (with_reducible refine (spec_l1In.calls ((rd_T168 l1 x6_1).f0) 0 (wrap64 ((x210000_1.length : Int) - 1)) true _ A16.out).mono ?_); rintro e w' ⟨rfl, ⟨nd, rfl⟩⟩; refine ⟨_, rfl, ?_⟩; (try (rw [drewN_self w46]; generalize hq_ : World.drewN w46 _ = w46; have n0_ : Aside0 (Kd.R Kd.string 9 w46 w.heap.size (fun _ => True) (.slice Ao50 x210000_1.length co50) x210000_1) := ⟨z167_⟩; have n1_ : Aside0 (Kd.R k166 166 w46 w.heap.size (fun _ => True) u210001 x210001_1) := ⟨z168_⟩; have n2_ : Aside0 (w46.heap[gb202]? = some (.cells #[.slice none 0 0, .slice none 0 0] 95 (0, 0))) := ⟨z172_⟩; have n3_ : Aside0 (w46.heap[gb209]? = some (.cells #[.slice Ao50 x210000_1.length co50, u210001] 95 (0, 0))) := ⟨z169_⟩; have n4_ : Aside0 (w46.heap[gb211]? = some (.cells #[.int .i64 ((rd_T168 l1 x6_1).f0), .string ((rd_T168 l1 x6_1).f1), .int .i64 ((rd_T168 l1 x6_1).f2.f0), .int .i64 ((rd_T168 l1 x6_1).f2.f1)] 168 (0, 0))) := ⟨z170_⟩; have n5_ : Aside0 (Below w.heap.size w w46) := ⟨z171_⟩; clear HO_210000 HO_210001 BK202 BK209 BK211 HB hq_; have HO_210000 := n0_; have HO_210001 := n1_; have BK202 := n2_; have BK209 := n3_; have BK211 := n4_; have HB := n5_; clear n0_ n1_ n2_ n3_ n4_ n5_)); obtain ⟨hcq202_0, hcq202_1, hfq202_0, hfq202_1⟩ := cs2_ BK202.out; obtain ⟨hcq209_0, hcq209_1, hfq209_0, hfq209_1⟩ := cs2_ BK209.out; obtain ⟨hcq211_0, hcq211_1, hcq211_2, hcq211_3, hfq211_0, hfq211_1, hfq211_2, hfq211_3⟩ := cs4_ BK211.out; have p20 : 0 ≤ (((rd_T168 l1 x6_1).f0) : Int) := of_decide_eq_true z1_; have q20 : (((rd_T168 l1 x6_1).f0) : Int) < ((x210000_1.length : Int) : Int) := of_decide_eq_true z1_; obtain ⟨go20, co20, eo20, gb20, gl20, cl20, HG20⟩ := Kd.R_form HO_210000.out (by omega); (first | cases eo20 | (injection eo20 with ea_ en_ ec_; (first | subst ea_ | (injection ea_ with ea_; subst ea_)); subst ec_; clear en_)); have GB20 := q_ gb20; have GG20 := q_ HG20; clear gb20 gl20 HG20; obtain ⟨hx20_0, hf20_0⟩ := Kd.R_celln (⟨#[]⟩ : ByteArray) HO_210000.out (((rd_T168 l1 x6_1).f0) : Int) p20 q20; replace p20 := eq_true p20; replace q20 := eq_true q20; obtain ⟨hy51_, hz51_⟩ := Kd.R_celln (⟨#[]⟩ : ByteArray) HO_210000.out (((rd_T168 l1 x6_1).f0) : Int) (of_decide_eq_true z1_) (of_decide_eq_true z1_); have HP51 := Kd.R_putg HO_210000.out (((rd_T168 l1 x6_1).f0) : Int) ((rd_T168 l1 x6_1).f1)) | ((with_reducible refine gate_store (t := 9) (p := 33) rfl ?_); refine store_event (t := 9) (p := 33) (v := ?vo_w52) (w1 := (w46.setCell ⟨go20, (((rd_T168 l1 x6_1).f0) : Int).toNat, none⟩ (.string ((rd_T168 l1 x6_1).f1)))) ?hg ?ho ?hn ?hr ?_; (case ho => rfl); (case hg => rfl); (case hn => rfl); (case hr => exact z177_); intro w52 hw; have hg : w46.grownBy w52 (some go20) := (by rw [hw]; exact HP51.2); have hp_ : Kd.R Kd.string 9 w52 w.heap.size (fun _ => True) (.slice (some ⟨go20, 0, none⟩) x210000_1.length co50) y213 := (by rw [hw, Ny213.out]; exact HP51.1); clear HP51; replace HO_210001 := q_ (Kd.R_over' (v := (.slice (some ⟨go20, 0, none⟩) x210000_1.length co50)) z18_ (Kd.R_typed HO_210000.out) (by decide) hg); replace BK202 := q_ (blk_grown (g := gb202) (o := .cells #[.slice none 0 0, .slice none 0 0] 95 (0, 0)) z6_ hg (Kd.R_ne HO_210000.out BK202.out (by decide))); replace BK209 := q_ (blk_grown (g := gb209) (o := .cells #[.slice (some ⟨go20, 0, none⟩) x210000_1.length co50, u210001] 95 (0, 0)) z10_ hg (Kd.R_ne HO_210000.out BK209.out (by decide))); replace BK211 := q_ (blk_grown (g := gb211) (o := .cells #[.int .i64 ((rd_T168 l1 x6_1).f0), .string ((rd_T168 l1 x6_1).f1), .int .i64 ((rd_T168 l1 x6_1).f2.f0), .int .i64 ((rd_T168 l1 x6_1).f2.f1)] 168 (0, 0)) z33_ hg (Kd.R_ne HO_210000.out BK211.out (by decide))); replace HO_210000 := q_ (hp_); replace HB := q_ ((z135_ : Below w.heap.size w w52)); clear hg hw hp_; obtain ⟨hcz53_0, hcz53_1, hcz53_2, hcz53_3, hfz53_0, hfz53_1, hfz53_2, hfz53_3⟩ := cs4_ BK211.out; obtain ⟨hcz54_0, hcz54_1, hfz54_0, hfz54_1⟩ := cs2_ BK209.out; obtain ⟨Ao55, co55, eo55⟩ := Kd.R_slice HO_210001.out; subst eo55))
          go_roundg k1
          case measure => have := HK1.out; omega
          case rel => exact ⟨(wrap64 (x6_1 + 1)), (y213), (x210001_1), (.slice (some ⟨go20, 0, none⟩) x210000_1.length co50), (.slice Ao55 x210001_1.length co55), z14_, H', ⟨z70_⟩, ⟨z21_⟩, ⟨z18_⟩, ⟨z6_⟩, ⟨z10_⟩, ⟨z11_⟩⟩
        ·rw [if_neg c21] at H
         have c21b0 : (((rd_T168 l1 x6_1).f0) == (-1)) = false := beq_eq_false_iff_ne.mpr c21
         have c21b1 : (((rd_T168 l1 x6_1).f0) != (-1)) = true := bne_iff_ne.mpr c21
         by_cases c56 : ((rd_T168 l1 x6_1).f0) = (-2)
         ·rw [if_pos c56] at H
          have c56b0 : (((rd_T168 l1 x6_1).f0) == (-2)) = true := beq_iff_eq.mpr c56
          have c56b1 : (((rd_T168 l1 x6_1).f0) != (-2)) = false := bne_eq_false_iff_eq.mpr c56
          clear c56
          have HC57 := q_ H
          clear H
          have p210 : 0 ≤ (x6_1 : Int) := of_decide_eq_true z1_
          have q210 : x6_1 < (l1.length : Int) := of_decide_eq_true z1_
          obtain ⟨ad210, e210, hx210_0, hx210_1, hx210_2, hx210_3⟩ := at_T168 HR1.out x6_1 p210 q210
          cases e210
          replace hx210_0 := up_ HB hx210_0
          replace hx210_1 := up_ HB hx210_1
          replace hx210_2 := up_ HB hx210_2
          replace hx210_3 := up_ HB hx210_3
          replace p210 := eq_true p210
          replace q210 := eq_true q210
          go_upto_if 50 with (first | ((with_reducible refine gate_dst (N := 7) rfl ?_); (try (refine gate_guard (by rfl) ?_; dsimp only)); refine box_event ?hg (N := 7) ?hd (cs := #[.int .i64 0, .string (⟨#[]⟩ : ByteArray), .int .i64 0, .int .i64 0]) (t := 168) ?hr ?_; (case hd => rfl); (case hg => rfl); (case hr => exact z177_); intro gb211 hg w58 hbox hb; replace HO_210000 := q_ (Kd.R_below z21_ hb); replace HO_210001 := q_ (Kd.R_below z18_ hb); have BK211 := q_ (hbox); have GW211 := q_ ((z145_ : w.heap.size ≤ gb211)); have GE211 := q_ ((z145_ : w.heap.size ≤ gb211)); replace HB := q_ (below_step z9_ hb); have NB202_211 := q_ ((z139_ : gb202 ≠ gb211)); have NB211_202 := q_ ((z140_ : gb211 ≠ gb202)); replace BK202 := q_ (blk_below (g := gb202) (o := .cells #[.slice none 0 0, .slice none 0 0] 95 (0, 0)) z6_ hb); have NB209_211 := q_ ((z142_ : gb209 ≠ gb211)); have NB211_209 := q_ ((z143_ : gb211 ≠ gb209)); replace BK209 := q_ (blk_below (g := gb209) (o := .cells #[u210000, u210001] 95 (0, 0)) z10_ hb); clear hb hbox hg; have hnb59 := NB211_202.out; have hnc59 := NB202_211.out; have hnb60 := NB211_209.out; have hnc60 := NB209_211.out; obtain ⟨hcz61_0, hcz61_1, hcz61_2, hcz61_3, hfz61_0, hfz61_1, hfz61_2, hfz61_3⟩ := cs4_ BK211.out) | ((with_reducible refine gate_store (t := 168) (p := 7) rfl ?_); refine store_event (t := 168) (p := 7) (v := ?vo_w62) (w1 := ((((w58.setCell ⟨gb211, 0, none⟩ (.int .i64 ((rd_T168 l1 x6_1).f0))).setCell ⟨gb211, 1, none⟩ (.string ((rd_T168 l1 x6_1).f1))).setCell ⟨gb211, 2, none⟩ (.int .i64 ((rd_T168 l1 x6_1).f2.f0))).setCell ⟨gb211, 3, none⟩ (.int .i64 ((rd_T168 l1 x6_1).f2.f1)))) ?hg ?ho ?hn ?hr ?_; (case ho => rfl); (case hg => rfl); (case hn => rfl); (case hr => exact z177_); intro w62 hw; have n0_ : Aside0 (Kd.R Kd.string 9 w62 w.heap.size (fun _ => True) u210000 x210000_1) := ⟨(by rw [hw]; exact (by (with_reducible repeat (first | apply Kd.R_alloc | apply Kd.R_drewN | apply Kd.R_drew)); exact Kd.R_mono (Kd.R_far (p := ⟨gb211, 3, none⟩) (Kd.R_far (p := ⟨gb211, 2, none⟩) (Kd.R_far (p := ⟨gb211, 1, none⟩) (Kd.R_far (p := ⟨gb211, 0, none⟩) (Kd.R_types HO_210000.out BK211.out (by decide)) (fun _ hk => hk.2) (.int .i64 ((rd_T168 l1 x6_1).f0))) (fun _ hk => hk.2) (.string ((rd_T168 l1 x6_1).f1))) (fun _ hk => hk.2) (.int .i64 ((rd_T168 l1 x6_1).f2.f0))) (fun _ hk => hk.2) (.int .i64 ((rd_T168 l1 x6_1).f2.f1))) (fun _ hk => trivial)))⟩; have n1_ : Aside0 (Kd.R k166 166 w62 w.heap.size (fun _ => True) u210001 x210001_1) := ⟨(by rw [hw]; exact (by (with_reducible repeat (first | apply Kd.R_alloc | apply Kd.R_drewN | apply Kd.R_drew)); exact Kd.R_mono (Kd.R_far (p := ⟨gb211, 3, none⟩) (Kd.R_far (p := ⟨gb211, 2, none⟩) (Kd.R_far (p := ⟨gb211, 1, none⟩) (Kd.R_far (p := ⟨gb211, 0, none⟩) (Kd.R_types HO_210001.out BK211.out (by decide)) (fun _ hk => hk.2) (.int .i64 ((rd_T168 l1 x6_1).f0))) (fun _ hk => hk.2) (.string ((rd_T168 l1 x6_1).f1))) (fun _ hk => hk.2) (.int .i64 ((rd_T168 l1 x6_1).f2.f0))) (fun _ hk => hk.2) (.int .i64 ((rd_T168 l1 x6_1).f2.f1))) (fun _ hk => trivial)))⟩; have n2_ : Aside0 (w62.heap[gb202]? = some (.cells #[.slice none 0 0, .slice none 0 0] 95 (0, 0))) := ⟨z174_⟩; have n3_ : Aside0 (w62.heap[gb209]? = some (.cells #[u210000, u210001] 95 (0, 0))) := ⟨z175_⟩; have n4_ : Aside0 (w62.heap[gb211]? = some (.cells #[.int .i64 ((rd_T168 l1 x6_1).f0), .string ((rd_T168 l1 x6_1).f1), .int .i64 ((rd_T168 l1 x6_1).f2.f0), .int .i64 ((rd_T168 l1 x6_1).f2.f1)] 168 (0, 0))) := ⟨z176_⟩; have n5_ : Aside0 (Below w.heap.size w w62) := ⟨z173_⟩; clear hw; clear HO_210000; clear HO_210001; clear BK202; clear BK209; clear BK211; clear HB; have HO_210000 := n0_; have HO_210001 := n1_; have BK202 := n2_; have BK209 := n3_; have BK211 := n4_; have HB := n5_; clear n0_ n1_ n2_ n3_ n4_ n5_; obtain ⟨hcz63_0, hcz63_1, hcz63_2, hcz63_3, hfz63_0, hfz63_1, hfz63_2, hfz63_3⟩ := cs4_ BK211.out; have hnb64 := NB209_202.out; have hnc64 := NB202_209.out; obtain ⟨hcz65_0, hcz65_1, hfz65_0, hfz65_1⟩ := cs2_ BK209.out; obtain ⟨Ao66, co66, eo66⟩ := Kd.R_slice HO_210000.out; subst eo66) | ((with_reducible refine gate_callee (f := 106) rfl ?_); refine goesL_ (some 26) rfl rfl Try.func106 (by kernel_rfl) rfl #[.int .i64 ((rd_T168 l1 x6_1).f0), .int .i64 0, .int .i64 (wrap64 ((x210000_1.length : Int) - 1))] rfl z2_ ?_; (with_reducible refine (spec_l1In.calls ((rd_T168 l1 x6_1).f0) 0 (wrap64 ((x210000_1.length : Int) - 1)) true _ A16.out).mono ?_); rintro e w' ⟨rfl, ⟨nd, rfl⟩⟩; refine ⟨_, rfl, ?_⟩; (try (rw [drewN_self w62]; generalize hq_ : World.drewN w62 _ = w62; have n0_ : Aside0 (Kd.R Kd.string 9 w62 w.heap.size (fun _ => True) (.slice Ao66 x210000_1.length co66) x210000_1) := ⟨z167_⟩; have n1_ : Aside0 (Kd.R k166 166 w62 w.heap.size (fun _ => True) u210001 x210001_1) := ⟨z168_⟩; have n2_ : Aside0 (w62.heap[gb202]? = some (.cells #[.slice none 0 0, .slice none 0 0] 95 (0, 0))) := ⟨z172_⟩; have n3_ : Aside0 (w62.heap[gb209]? = some (.cells #[.slice Ao66 x210000_1.length co66, u210001] 95 (0, 0))) := ⟨z169_⟩; have n4_ : Aside0 (w62.heap[gb211]? = some (.cells #[.int .i64 ((rd_T168 l1 x6_1).f0), .string ((rd_T168 l1 x6_1).f1), .int .i64 ((rd_T168 l1 x6_1).f2.f0), .int .i64 ((rd_T168 l1 x6_1).f2.f1)] 168 (0, 0))) := ⟨z170_⟩; have n5_ : Aside0 (Below w.heap.size w w62) := ⟨z171_⟩; clear HO_210000 HO_210001 BK202 BK209 BK211 HB hq_; have HO_210000 := n0_; have HO_210001 := n1_; have BK202 := n2_; have BK209 := n3_; have BK211 := n4_; have HB := n5_; clear n0_ n1_ n2_ n3_ n4_ n5_)); obtain ⟨hcq202_0, hcq202_1, hfq202_0, hfq202_1⟩ := cs2_ BK202.out; obtain ⟨hcq209_0, hcq209_1, hfq209_0, hfq209_1⟩ := cs2_ BK209.out; obtain ⟨hcq211_0, hcq211_1, hcq211_2, hcq211_3, hfq211_0, hfq211_1, hfq211_2, hfq211_3⟩ := cs4_ BK211.out; have p20 : 0 ≤ (((rd_T168 l1 x6_1).f0) : Int) := of_decide_eq_true z1_; have q20 : (((rd_T168 l1 x6_1).f0) : Int) < ((x210000_1.length : Int) : Int) := of_decide_eq_true z1_; obtain ⟨go20, co20, eo20, gb20, gl20, cl20, HG20⟩ := Kd.R_form HO_210000.out (by omega); (first | cases eo20 | (injection eo20 with ea_ en_ ec_; (first | subst ea_ | (injection ea_ with ea_; subst ea_)); subst ec_; clear en_)); have GB20 := q_ gb20; have GG20 := q_ HG20; clear gb20 gl20 HG20; obtain ⟨hx20_0, hf20_0⟩ := Kd.R_celln (⟨#[]⟩ : ByteArray) HO_210000.out (((rd_T168 l1 x6_1).f0) : Int) p20 q20; replace p20 := eq_true p20; replace q20 := eq_true q20; obtain ⟨hy67_, hz67_⟩ := Kd.R_celln (⟨#[]⟩ : ByteArray) HO_210000.out (((rd_T168 l1 x6_1).f0) : Int) (of_decide_eq_true z1_) (of_decide_eq_true z1_); have HP67 := Kd.R_putg HO_210000.out (((rd_T168 l1 x6_1).f0) : Int) ((rd_T168 l1 x6_1).f1)) | ((with_reducible refine gate_store (t := 9) (p := 33) rfl ?_); refine store_event (t := 9) (p := 33) (v := ?vo_w68) (w1 := (w62.setCell ⟨go20, (((rd_T168 l1 x6_1).f0) : Int).toNat, none⟩ (.string ((rd_T168 l1 x6_1).f1)))) ?hg ?ho ?hn ?hr ?_; (case ho => rfl); (case hg => rfl); (case hn => rfl); (case hr => exact z177_); intro w68 hw; have hg : w62.grownBy w68 (some go20) := (by rw [hw]; exact HP67.2); have hp_ : Kd.R Kd.string 9 w68 w.heap.size (fun _ => True) (.slice (some ⟨go20, 0, none⟩) x210000_1.length co66) y213 := (by rw [hw, Ny213.out]; exact HP67.1); clear HP67; replace HO_210001 := q_ (Kd.R_over' (v := (.slice (some ⟨go20, 0, none⟩) x210000_1.length co66)) z18_ (Kd.R_typed HO_210000.out) (by decide) hg); replace BK202 := q_ (blk_grown (g := gb202) (o := .cells #[.slice none 0 0, .slice none 0 0] 95 (0, 0)) z6_ hg (Kd.R_ne HO_210000.out BK202.out (by decide))); replace BK209 := q_ (blk_grown (g := gb209) (o := .cells #[.slice (some ⟨go20, 0, none⟩) x210000_1.length co66, u210001] 95 (0, 0)) z10_ hg (Kd.R_ne HO_210000.out BK209.out (by decide))); replace BK211 := q_ (blk_grown (g := gb211) (o := .cells #[.int .i64 ((rd_T168 l1 x6_1).f0), .string ((rd_T168 l1 x6_1).f1), .int .i64 ((rd_T168 l1 x6_1).f2.f0), .int .i64 ((rd_T168 l1 x6_1).f2.f1)] 168 (0, 0)) z33_ hg (Kd.R_ne HO_210000.out BK211.out (by decide))); replace HO_210000 := q_ (hp_); replace HB := q_ ((z135_ : Below w.heap.size w w68)); clear hg hw hp_; obtain ⟨hcz69_0, hcz69_1, hcz69_2, hcz69_3, hfz69_0, hfz69_1, hfz69_2, hfz69_3⟩ := cs4_ BK211.out; obtain ⟨hcz70_0, hcz70_1, hfz70_0, hfz70_1⟩ := cs2_ BK209.out; obtain ⟨Ao71, co71, eo71⟩ := Kd.R_slice HO_210001.out; subst eo71))
          (try simp only [Act.put, List.setIfInBounds_toArray, List.set_cons_zero, List.set_cons_succ])
          have H := HC57.out
          clear HC57
          by_cases c72 : (wrap64 ((-1) - ((rd_T168 l1 x6_1).f0))) < (x210001_1.length : Int)
          ·rw [if_pos c72] at H
           have c72b0 : decide ((wrap64 ((-1) - ((rd_T168 l1 x6_1).f0))) < (x210001_1.length : Int)) = true := decide_eq_true c72
           clear c72
           (first | rw [c72b0] | rw [c72b1] | (simp only [i64_w, i32_w]; first | rw [c72b0] | rw [c72b1]) | rw [c72b2] | skip)
           obtain ⟨ji73, hji73⟩ : ∃ j_ : Int, (wrap64 ((-1) - ((rd_T168 l1 x6_1).f0))) = j_ := ⟨_, rfl⟩
           replace H : (if 0 ≤ (ji73) then (spec_Do.l0 k1 l1 (wrap64 (x6_1 + 1)) y213 (x210001_1.set ((ji73) : Int).toNat (⟨(rd_T168 l1 x6_1).f2.f0, (rd_T168 l1 x6_1).f2.f1⟩ : S166))) else (none)) = some (r1, r2) := by first | (rw [hji73] at H; exact H) | (simp only [hji73] at H ⊢; exact H)
           (try rw [hji73] at c72b0)
           (try rw [hji73] at hji23)
           (try rw [hji73] at hji23w)
           have hji73w : (IntKind.i64.wrap ((-1) - ((rd_T168 l1 x6_1).f0))) = ji73 := (i64_w _).trans hji73
           by_cases c74 : 0 ≤ (ji73)
           ·rw [if_pos c74] at H
            have c74b0 : decide (0 ≤ (ji73)) = true := decide_eq_true c74
            clear c74
            obtain ⟨y215, hy_⟩ : ∃ y_ : List (S166), y_ = (x210001_1.set ((ji73) : Int).toNat (⟨(rd_T168 l1 x6_1).f2.f0, (rd_T168 l1 x6_1).f2.f1⟩ : S166)) := ⟨_, rfl⟩
            replace H : (spec_Do.l0 k1 l1 (wrap64 (x6_1 + 1)) y213 y215) = some (r1, r2) := z3_
            have Ny215 := q_ hy_
            clear hy_
            have H' := q_ H
            clear H
            have hnb76 := NB209_202.out
            have hnc76 := NB202_209.out
            have hnb77 := NB209_211.out
            have hnc77 := NB211_209.out
            obtain ⟨hcz78_0, hcz78_1, hfz78_0, hfz78_1⟩ := cs2_ BK209.out
            have hnb79 := NB211_202.out
            have hnc79 := NB202_211.out
            obtain ⟨hcz80_0, hcz80_1, hcz80_2, hcz80_3, hfz80_0, hfz80_1, hfz80_2, hfz80_3⟩ := cs4_ BK211.out
            have p75 : 0 ≤ ((ji73) : Int) := of_decide_eq_true z1_
            have q75 : ((ji73) : Int) < ((x210001_1.length : Int) : Int) := of_decide_eq_true z1_
            obtain ⟨go75, co75, eo75, gb75, gl75, cl75, HG75⟩ := Kd.R_form HO_210001.out (by omega)
            (first | cases eo75 | (injection eo75 with ea_ en_ ec_; (first | subst ea_ | (injection ea_ with ea_; subst ea_)); subst ec_; clear en_))
            have GB75 := q_ gb75
            have GG75 := q_ HG75
            clear gb75 gl75 HG75
            obtain ⟨ce75, hcl75, hM75, hcc75, hfr75⟩ := Kd.R_elem HO_210001.out z166 ((ji73) : Int) p75 q75
            obtain rfl := k166_openM hM75
            have hx75_0 : w68.cell? ⟨go75, ((ji73) : Int).toNat * 2, none⟩ = some (.int .i64 ((rd_T166 x210001_1 (ji73)).f0)) := hcc75 0 _ rfl
            have hx75_1 : w68.cell? ⟨go75, ((ji73) : Int).toNat * 2 + 1, none⟩ = some (.int .i64 ((rd_T166 x210001_1 (ji73)).f1)) := hcc75 1 _ rfl
            have hf75_0 : w68.frozen? ⟨go75, ((ji73) : Int).toNat * 2, none⟩ = false := hfr75 0
            have hf75_1 : w68.frozen? ⟨go75, ((ji73) : Int).toNat * 2 + 1, none⟩ = false := hfr75 1
            clear hcl75 hcc75 hfr75 hM75
            replace p75 := eq_true p75
            replace q75 := eq_true q75
            have HX81 := q_ (show Kd.R k166 166 w68 w.heap.size (fun _ => True) (.slice (some ⟨go75, 0, none⟩) x210001_1.length co71) x210001_1 from z18_)
            obtain ⟨ce81, hcl81, hM81, hcc81, hfr81⟩ := Kd.R_elem HX81.out z166 ((ji73) : Int) (of_decide_eq_true z1_) z154_
            obtain rfl := k166_openM hM81
            have HP81 := Kd.R_seg HX81.out ((ji73) : Int) (of_decide_eq_true z1_) z154_ (seg := [.int .i64 ((rd_T168 l1 x6_1).f2.f0), .int .i64 ((rd_T168 l1 x6_1).f2.f1)]) (j := 0) hcl81 hcc81 (show 2 ≤ 2 from by decide) (x' := (⟨(rd_T168 l1 x6_1).f2.f0, (rd_T168 l1 x6_1).f2.f1⟩ : S166)) (k166_mkM _ _ _ (⟨(rd_T168 l1 x6_1).f2.f0, (rd_T168 l1 x6_1).f2.f1⟩ : S166) ) (fun _ hk => hk)
            have hx81_0 := hcc81 0 _ rfl
            (try simp only [show (k166).sz = 2 from rfl, Nat.mul_one, Nat.add_zero] at hx81_0)
            have hf81_0 := hfr81 0
            (try simp only [show (k166).sz = 2 from rfl, Nat.mul_one, Nat.add_zero] at hf81_0)
            have hx81_1 := hcc81 1 _ rfl
            (try simp only [show (k166).sz = 2 from rfl, Nat.mul_one, Nat.add_zero] at hx81_1)
            have hf81_1 := hfr81 1
            (try simp only [show (k166).sz = 2 from rfl, Nat.mul_one, Nat.add_zero] at hf81_1)
            clear hcl81 hcc81 hfr81 hM81
            go_wp2_with (first | ((with_reducible refine gate_store (t := 166) (p := 58) rfl ?_); refine store_event (t := 166) (p := 58) (v := ?vo_w82) (w1 := ((w68.setCell ⟨go75, ((ji73) : Int).toNat * 2, none⟩ (.int .i64 ((rd_T168 l1 x6_1).f2.f0))).setCell ⟨go75, ((ji73) : Int).toNat * 2 + 1, none⟩ (.int .i64 ((rd_T168 l1 x6_1).f2.f1)))) ?hg ?ho ?hn ?hr ?_; (case ho => rfl); (case hg => rfl); (case hn => rfl); (case hr => exact z177_); intro w82 hw; have hg : w68.grownBy w82 (some go75) := (by rw [hw]; exact HP81.2); have hp_ : Kd.R k166 166 w82 w.heap.size (fun _ => True) (.slice (some ⟨go75, 0, none⟩) x210001_1.length co71) y215 := (by rw [hw, Ny215.out]; exact HP81.1); clear HP81; replace HO_210000 := q_ (Kd.R_over' (v := (.slice (some ⟨go75, 0, none⟩) x210001_1.length co71)) z21_ (Kd.R_typed HO_210001.out) (by decide) hg); replace BK202 := q_ (blk_grown (g := gb202) (o := .cells #[.slice none 0 0, .slice none 0 0] 95 (0, 0)) z6_ hg (Kd.R_ne HO_210001.out BK202.out (by decide))); replace BK209 := q_ (blk_grown (g := gb209) (o := .cells #[.slice (some ⟨go20, 0, none⟩) x210000_1.length co66, .slice (some ⟨go75, 0, none⟩) x210001_1.length co71] 95 (0, 0)) z10_ hg (Kd.R_ne HO_210001.out BK209.out (by decide))); replace BK211 := q_ (blk_grown (g := gb211) (o := .cells #[.int .i64 ((rd_T168 l1 x6_1).f0), .string ((rd_T168 l1 x6_1).f1), .int .i64 ((rd_T168 l1 x6_1).f2.f0), .int .i64 ((rd_T168 l1 x6_1).f2.f1)] 168 (0, 0)) z33_ hg (Kd.R_ne HO_210001.out BK211.out (by decide))); replace HO_210001 := q_ (hp_); replace HB := q_ ((by rw [hw]; exact below_set (below_set (HB.out) GB75.out) GB75.out : Below w.heap.size w w82)); clear hg hw hp_))
            go_roundg k1
            case measure => have := HK1.out; omega
            case rel => exact ⟨(wrap64 (x6_1 + 1)), (y213), (y215), (.slice (some ⟨go20, 0, none⟩) x210000_1.length co66), (.slice (some ⟨go75, 0, none⟩) x210001_1.length co71), z14_, H', ⟨z70_⟩, ⟨z21_⟩, ⟨z18_⟩, ⟨z6_⟩, ⟨z10_⟩, ⟨z11_⟩⟩
           ·rw [if_neg c74] at H
            exact absurd H (by simp)
          ·rw [if_neg c72] at H
           have c72b0 : decide ((wrap64 ((-1) - ((rd_T168 l1 x6_1).f0))) < (x210001_1.length : Int)) = false := decide_eq_false c72
           clear c72
           (first | rw [c72b0] | rw [c72b1] | (simp only [i64_w, i32_w]; first | rw [c72b0] | rw [c72b1]) | rw [c72b2] | skip)
           have H' := q_ H
           clear H
           go_wp2
           go_roundg k1
           case measure => have := HK1.out; omega
           case rel => exact ⟨(wrap64 (x6_1 + 1)), (y213), (x210001_1), (.slice (some ⟨go20, 0, none⟩) x210000_1.length co66), (.slice Ao71 x210001_1.length co71), z14_, H', ⟨z70_⟩, ⟨z21_⟩, ⟨z18_⟩, ⟨z6_⟩, ⟨z10_⟩, ⟨z11_⟩⟩
         ·rw [if_neg c56] at H
          have c56b0 : (((rd_T168 l1 x6_1).f0) == (-2)) = false := beq_eq_false_iff_ne.mpr c56
          have c56b1 : (((rd_T168 l1 x6_1).f0) != (-2)) = true := bne_iff_ne.mpr c56
          have H' := q_ H
          clear H
          have p210 : 0 ≤ (x6_1 : Int) := of_decide_eq_true z1_
          have q210 : x6_1 < (l1.length : Int) := of_decide_eq_true z1_
          obtain ⟨ad210, e210, hx210_0, hx210_1, hx210_2, hx210_3⟩ := at_T168 HR1.out x6_1 p210 q210
          cases e210
          replace hx210_0 := up_ HB hx210_0
          replace hx210_1 := up_ HB hx210_1
          replace hx210_2 := up_ HB hx210_2
          replace hx210_3 := up_ HB hx210_3
          replace p210 := eq_true p210
          replace q210 := eq_true q210
          go_wp2_with (first | ((with_reducible refine gate_dst (N := 7) rfl ?_); (try (refine gate_guard (by rfl) ?_; dsimp only)); refine box_event ?hg (N := 7) ?hd (cs := #[.int .i64 0, .string (⟨#[]⟩ : ByteArray), .int .i64 0, .int .i64 0]) (t := 168) ?hr ?_; (case hd => rfl); (case hg => rfl); (case hr => exact z177_); intro gb211 hg w83 hbox hb; replace HO_210000 := q_ (Kd.R_below z21_ hb); replace HO_210001 := q_ (Kd.R_below z18_ hb); have BK211 := q_ (hbox); have GW211 := q_ ((z145_ : w.heap.size ≤ gb211)); have GE211 := q_ ((z145_ : w.heap.size ≤ gb211)); replace HB := q_ (below_step z9_ hb); have NB202_211 := q_ ((z139_ : gb202 ≠ gb211)); have NB211_202 := q_ ((z140_ : gb211 ≠ gb202)); replace BK202 := q_ (blk_below (g := gb202) (o := .cells #[.slice none 0 0, .slice none 0 0] 95 (0, 0)) z6_ hb); have NB209_211 := q_ ((z142_ : gb209 ≠ gb211)); have NB211_209 := q_ ((z143_ : gb211 ≠ gb209)); replace BK209 := q_ (blk_below (g := gb209) (o := .cells #[u210000, u210001] 95 (0, 0)) z10_ hb); clear hb hbox hg; have hnb84 := NB211_202.out; have hnc84 := NB202_211.out; have hnb85 := NB211_209.out; have hnc85 := NB209_211.out; obtain ⟨hcz86_0, hcz86_1, hcz86_2, hcz86_3, hfz86_0, hfz86_1, hfz86_2, hfz86_3⟩ := cs4_ BK211.out) | ((with_reducible refine gate_store (t := 168) (p := 7) rfl ?_); refine store_event (t := 168) (p := 7) (v := ?vo_w87) (w1 := ((((w83.setCell ⟨gb211, 0, none⟩ (.int .i64 ((rd_T168 l1 x6_1).f0))).setCell ⟨gb211, 1, none⟩ (.string ((rd_T168 l1 x6_1).f1))).setCell ⟨gb211, 2, none⟩ (.int .i64 ((rd_T168 l1 x6_1).f2.f0))).setCell ⟨gb211, 3, none⟩ (.int .i64 ((rd_T168 l1 x6_1).f2.f1)))) ?hg ?ho ?hn ?hr ?_; (case ho => rfl); (case hg => rfl); (case hn => rfl); (case hr => exact z177_); intro w87 hw; have n0_ : Aside0 (Kd.R Kd.string 9 w87 w.heap.size (fun _ => True) u210000 x210000_1) := ⟨(by rw [hw]; exact (by (with_reducible repeat (first | apply Kd.R_alloc | apply Kd.R_drewN | apply Kd.R_drew)); exact Kd.R_mono (Kd.R_far (p := ⟨gb211, 3, none⟩) (Kd.R_far (p := ⟨gb211, 2, none⟩) (Kd.R_far (p := ⟨gb211, 1, none⟩) (Kd.R_far (p := ⟨gb211, 0, none⟩) (Kd.R_types HO_210000.out BK211.out (by decide)) (fun _ hk => hk.2) (.int .i64 ((rd_T168 l1 x6_1).f0))) (fun _ hk => hk.2) (.string ((rd_T168 l1 x6_1).f1))) (fun _ hk => hk.2) (.int .i64 ((rd_T168 l1 x6_1).f2.f0))) (fun _ hk => hk.2) (.int .i64 ((rd_T168 l1 x6_1).f2.f1))) (fun _ hk => trivial)))⟩; have n1_ : Aside0 (Kd.R k166 166 w87 w.heap.size (fun _ => True) u210001 x210001_1) := ⟨(by rw [hw]; exact (by (with_reducible repeat (first | apply Kd.R_alloc | apply Kd.R_drewN | apply Kd.R_drew)); exact Kd.R_mono (Kd.R_far (p := ⟨gb211, 3, none⟩) (Kd.R_far (p := ⟨gb211, 2, none⟩) (Kd.R_far (p := ⟨gb211, 1, none⟩) (Kd.R_far (p := ⟨gb211, 0, none⟩) (Kd.R_types HO_210001.out BK211.out (by decide)) (fun _ hk => hk.2) (.int .i64 ((rd_T168 l1 x6_1).f0))) (fun _ hk => hk.2) (.string ((rd_T168 l1 x6_1).f1))) (fun _ hk => hk.2) (.int .i64 ((rd_T168 l1 x6_1).f2.f0))) (fun _ hk => hk.2) (.int .i64 ((rd_T168 l1 x6_1).f2.f1))) (fun _ hk => trivial)))⟩; have n2_ : Aside0 (w87.heap[gb202]? = some (.cells #[.slice none 0 0, .slice none 0 0] 95 (0, 0))) := ⟨z174_⟩; have n3_ : Aside0 (w87.heap[gb209]? = some (.cells #[u210000, u210001] 95 (0, 0))) := ⟨z175_⟩; have n4_ : Aside0 (w87.heap[gb211]? = some (.cells #[.int .i64 ((rd_T168 l1 x6_1).f0), .string ((rd_T168 l1 x6_1).f1), .int .i64 ((rd_T168 l1 x6_1).f2.f0), .int .i64 ((rd_T168 l1 x6_1).f2.f1)] 168 (0, 0))) := ⟨z176_⟩; have n5_ : Aside0 (Below w.heap.size w w87) := ⟨z173_⟩; clear hw; clear HO_210000; clear HO_210001; clear BK202; clear BK209; clear BK211; clear HB; have HO_210000 := n0_; have HO_210001 := n1_; have BK202 := n2_; have BK209 := n3_; have BK211 := n4_; have HB := n5_; clear n0_ n1_ n2_ n3_ n4_ n5_; obtain ⟨hcz88_0, hcz88_1, hcz88_2, hcz88_3, hfz88_0, hfz88_1, hfz88_2, hfz88_3⟩ := cs4_ BK211.out; have hnb89 := NB209_202.out; have hnc89 := NB202_209.out; obtain ⟨hcz90_0, hcz90_1, hfz90_0, hfz90_1⟩ := cs2_ BK209.out; obtain ⟨Ao91, co91, eo91⟩ := Kd.R_slice HO_210000.out; subst eo91) | ((with_reducible refine gate_callee (f := 106) rfl ?_); refine goesL_ (some 26) rfl rfl Try.func106 (by kernel_rfl) rfl #[.int .i64 ((rd_T168 l1 x6_1).f0), .int .i64 0, .int .i64 (wrap64 ((x210000_1.length : Int) - 1))] rfl z2_ ?_; (with_reducible refine (spec_l1In.calls ((rd_T168 l1 x6_1).f0) 0 (wrap64 ((x210000_1.length : Int) - 1)) true _ A16.out).mono ?_); rintro e w' ⟨rfl, ⟨nd, rfl⟩⟩; refine ⟨_, rfl, ?_⟩; (try (rw [drewN_self w87]; generalize hq_ : World.drewN w87 _ = w87; have n0_ : Aside0 (Kd.R Kd.string 9 w87 w.heap.size (fun _ => True) (.slice Ao91 x210000_1.length co91) x210000_1) := ⟨z167_⟩; have n1_ : Aside0 (Kd.R k166 166 w87 w.heap.size (fun _ => True) u210001 x210001_1) := ⟨z168_⟩; have n2_ : Aside0 (w87.heap[gb202]? = some (.cells #[.slice none 0 0, .slice none 0 0] 95 (0, 0))) := ⟨z172_⟩; have n3_ : Aside0 (w87.heap[gb209]? = some (.cells #[.slice Ao91 x210000_1.length co91, u210001] 95 (0, 0))) := ⟨z169_⟩; have n4_ : Aside0 (w87.heap[gb211]? = some (.cells #[.int .i64 ((rd_T168 l1 x6_1).f0), .string ((rd_T168 l1 x6_1).f1), .int .i64 ((rd_T168 l1 x6_1).f2.f0), .int .i64 ((rd_T168 l1 x6_1).f2.f1)] 168 (0, 0))) := ⟨z170_⟩; have n5_ : Aside0 (Below w.heap.size w w87) := ⟨z171_⟩; clear HO_210000 HO_210001 BK202 BK209 BK211 HB hq_; have HO_210000 := n0_; have HO_210001 := n1_; have BK202 := n2_; have BK209 := n3_; have BK211 := n4_; have HB := n5_; clear n0_ n1_ n2_ n3_ n4_ n5_)); obtain ⟨hcq202_0, hcq202_1, hfq202_0, hfq202_1⟩ := cs2_ BK202.out; obtain ⟨hcq209_0, hcq209_1, hfq209_0, hfq209_1⟩ := cs2_ BK209.out; obtain ⟨hcq211_0, hcq211_1, hcq211_2, hcq211_3, hfq211_0, hfq211_1, hfq211_2, hfq211_3⟩ := cs4_ BK211.out; have p20 : 0 ≤ (((rd_T168 l1 x6_1).f0) : Int) := of_decide_eq_true z1_; have q20 : (((rd_T168 l1 x6_1).f0) : Int) < ((x210000_1.length : Int) : Int) := of_decide_eq_true z1_; obtain ⟨go20, co20, eo20, gb20, gl20, cl20, HG20⟩ := Kd.R_form HO_210000.out (by omega); (first | cases eo20 | (injection eo20 with ea_ en_ ec_; (first | subst ea_ | (injection ea_ with ea_; subst ea_)); subst ec_; clear en_)); have GB20 := q_ gb20; have GG20 := q_ HG20; clear gb20 gl20 HG20; obtain ⟨hx20_0, hf20_0⟩ := Kd.R_celln (⟨#[]⟩ : ByteArray) HO_210000.out (((rd_T168 l1 x6_1).f0) : Int) p20 q20; replace p20 := eq_true p20; replace q20 := eq_true q20; obtain ⟨hy92_, hz92_⟩ := Kd.R_celln (⟨#[]⟩ : ByteArray) HO_210000.out (((rd_T168 l1 x6_1).f0) : Int) (of_decide_eq_true z1_) (of_decide_eq_true z1_); have HP92 := Kd.R_putg HO_210000.out (((rd_T168 l1 x6_1).f0) : Int) ((rd_T168 l1 x6_1).f1)) | ((with_reducible refine gate_store (t := 9) (p := 33) rfl ?_); refine store_event (t := 9) (p := 33) (v := ?vo_w93) (w1 := (w87.setCell ⟨go20, (((rd_T168 l1 x6_1).f0) : Int).toNat, none⟩ (.string ((rd_T168 l1 x6_1).f1)))) ?hg ?ho ?hn ?hr ?_; (case ho => rfl); (case hg => rfl); (case hn => rfl); (case hr => exact z177_); intro w93 hw; have hg : w87.grownBy w93 (some go20) := (by rw [hw]; exact HP92.2); have hp_ : Kd.R Kd.string 9 w93 w.heap.size (fun _ => True) (.slice (some ⟨go20, 0, none⟩) x210000_1.length co91) y213 := (by rw [hw, Ny213.out]; exact HP92.1); clear HP92; replace HO_210001 := q_ (Kd.R_over' (v := (.slice (some ⟨go20, 0, none⟩) x210000_1.length co91)) z18_ (Kd.R_typed HO_210000.out) (by decide) hg); replace BK202 := q_ (blk_grown (g := gb202) (o := .cells #[.slice none 0 0, .slice none 0 0] 95 (0, 0)) z6_ hg (Kd.R_ne HO_210000.out BK202.out (by decide))); replace BK209 := q_ (blk_grown (g := gb209) (o := .cells #[.slice (some ⟨go20, 0, none⟩) x210000_1.length co91, u210001] 95 (0, 0)) z10_ hg (Kd.R_ne HO_210000.out BK209.out (by decide))); replace BK211 := q_ (blk_grown (g := gb211) (o := .cells #[.int .i64 ((rd_T168 l1 x6_1).f0), .string ((rd_T168 l1 x6_1).f1), .int .i64 ((rd_T168 l1 x6_1).f2.f0), .int .i64 ((rd_T168 l1 x6_1).f2.f1)] 168 (0, 0)) z33_ hg (Kd.R_ne HO_210000.out BK211.out (by decide))); replace HO_210000 := q_ (hp_); replace HB := q_ ((z135_ : Below w.heap.size w w93)); clear hg hw hp_; obtain ⟨hcz94_0, hcz94_1, hcz94_2, hcz94_3, hfz94_0, hfz94_1, hfz94_2, hfz94_3⟩ := cs4_ BK211.out))
          go_roundg k1
          case measure => have := HK1.out; omega
          case rel => exact ⟨(wrap64 (x6_1 + 1)), (y213), (x210001_1), (.slice (some ⟨go20, 0, none⟩) x210000_1.length co91), (u210001), z14_, H', ⟨z70_⟩, ⟨z21_⟩, ⟨z18_⟩, ⟨z6_⟩, ⟨z10_⟩, ⟨z11_⟩⟩
       ·rw [if_neg c19] at H
        exact absurd H (by simp)
      ·rw [if_neg c18] at H
       exact absurd H (by simp)
     ·replace c17 := Bool.eq_false_iff.mpr c17
      subst c17
      have H1 : (if ((rd_T168 l1 x6_1).f0) = (-1) then (if (wrap64 ((-1) - ((rd_T168 l1 x6_1).f0))) < (x210001_1.length : Int) then (if 0 ≤ (wrap64 ((-1) - ((rd_T168 l1 x6_1).f0))) then (spec_Do.l0 k1 l1 (wrap64 (x6_1 + 1)) x210000_1 (x210001_1.set ((wrap64 ((-1) - ((rd_T168 l1 x6_1).f0))) : Int).toNat (⟨(rd_T168 l1 x6_1).f2.f0, (rd_T168 l1 x6_1).f2.f1⟩ : S166))) else (none)) else (spec_Do.l0 k1 l1 (wrap64 (x6_1 + 1)) x210000_1 x210001_1)) else (if ((rd_T168 l1 x6_1).f0) = (-2) then (if (wrap64 ((-1) - ((rd_T168 l1 x6_1).f0))) < (x210001_1.length : Int) then (if 0 ≤ (wrap64 ((-1) - ((rd_T168 l1 x6_1).f0))) then (spec_Do.l0 k1 l1 (wrap64 (x6_1 + 1)) x210000_1 (x210001_1.set ((wrap64 ((-1) - ((rd_T168 l1 x6_1).f0))) : Int).toNat (⟨(rd_T168 l1 x6_1).f2.f0, (rd_T168 l1 x6_1).f2.f1⟩ : S166))) else (none)) else (spec_Do.l0 k1 l1 (wrap64 (x6_1 + 1)) x210000_1 x210001_1)) else (spec_Do.l0 k1 l1 (wrap64 (x6_1 + 1)) x210000_1 x210001_1))) = some (r1, r2) := by rw [if_neg (show ¬ (false = true) by decide)] at H; exact H
      clear H
      have H := H1
      clear H1
      by_cases c95 : ((rd_T168 l1 x6_1).f0) = (-1)
      ·rw [if_pos c95] at H
       have c95b0 : (((rd_T168 l1 x6_1).f0) == (-1)) = true := beq_iff_eq.mpr c95
       have c95b1 : (((rd_T168 l1 x6_1).f0) != (-1)) = false := bne_eq_false_iff_eq.mpr c95
       clear c95
       by_cases c96 : (wrap64 ((-1) - ((rd_T168 l1 x6_1).f0))) < (x210001_1.length : Int)
       ·rw [if_pos c96] at H
        have c96b0 : decide ((wrap64 ((-1) - ((rd_T168 l1 x6_1).f0))) < (x210001_1.length : Int)) = true := decide_eq_true c96
        clear c96
        obtain ⟨ji97, hji97⟩ : ∃ j_ : Int, (wrap64 ((-1) - ((rd_T168 l1 x6_1).f0))) = j_ := ⟨_, rfl⟩
        replace H : (if 0 ≤ (ji97) then (spec_Do.l0 k1 l1 (wrap64 (x6_1 + 1)) x210000_1 (x210001_1.set ((ji97) : Int).toNat (⟨(rd_T168 l1 x6_1).f2.f0, (rd_T168 l1 x6_1).f2.f1⟩ : S166))) else (none)) = some (r1, r2) := by first | (rw [hji97] at H; exact H) | (simp only [hji97] at H ⊢; exact H)
        (try rw [hji97] at c96b0)
        (try rw [hji97] at hji23)
        (try rw [hji97] at hji23w)
        (try rw [hji97] at hji73)
        (try rw [hji97] at hji73w)
        (try rw [hji97] at A16)
        have hji97w : (IntKind.i64.wrap ((-1) - ((rd_T168 l1 x6_1).f0))) = ji97 := (i64_w _).trans hji97
        by_cases c98 : 0 ≤ (ji97)
        ·rw [if_pos c98] at H
         have c98b0 : decide (0 ≤ (ji97)) = true := decide_eq_true c98
         clear c98
         obtain ⟨y216, hy_⟩ : ∃ y_ : List (S166), y_ = (x210001_1.set ((ji97) : Int).toNat (⟨(rd_T168 l1 x6_1).f2.f0, (rd_T168 l1 x6_1).f2.f1⟩ : S166)) := ⟨_, rfl⟩
         replace H : (spec_Do.l0 k1 l1 (wrap64 (x6_1 + 1)) x210000_1 y216) = some (r1, r2) := z3_
         have Ny216 := q_ hy_
         clear hy_
         have H' := q_ H
         clear H
         have p210 : 0 ≤ (x6_1 : Int) := of_decide_eq_true z1_
         have q210 : x6_1 < (l1.length : Int) := of_decide_eq_true z1_
         obtain ⟨ad210, e210, hx210_0, hx210_1, hx210_2, hx210_3⟩ := at_T168 HR1.out x6_1 p210 q210
         cases e210
         replace hx210_0 := up_ HB hx210_0
         replace hx210_1 := up_ HB hx210_1
         replace hx210_2 := up_ HB hx210_2
         replace hx210_3 := up_ HB hx210_3
         replace p210 := eq_true p210
         replace q210 := eq_true q210
         go_wp2_with (first | ((with_reducible refine gate_dst (N := 7) rfl ?_); (try (refine gate_guard (by rfl) ?_; dsimp only)); refine box_event ?hg (N := 7) ?hd (cs := #[.int .i64 0, .string (⟨#[]⟩ : ByteArray), .int .i64 0, .int .i64 0]) (t := 168) ?hr ?_; (case hd => rfl); (case hg => rfl); (case hr => exact z177_); intro gb211 hg w100 hbox hb; replace HO_210000 := q_ (Kd.R_below z21_ hb); replace HO_210001 := q_ (Kd.R_below z18_ hb); have BK211 := q_ (hbox); have GW211 := q_ ((z145_ : w.heap.size ≤ gb211)); have GE211 := q_ ((z145_ : w.heap.size ≤ gb211)); replace HB := q_ (below_step z9_ hb); have NB202_211 := q_ ((z139_ : gb202 ≠ gb211)); have NB211_202 := q_ ((z140_ : gb211 ≠ gb202)); replace BK202 := q_ (blk_below (g := gb202) (o := .cells #[.slice none 0 0, .slice none 0 0] 95 (0, 0)) z6_ hb); have NB209_211 := q_ ((z142_ : gb209 ≠ gb211)); have NB211_209 := q_ ((z143_ : gb211 ≠ gb209)); replace BK209 := q_ (blk_below (g := gb209) (o := .cells #[u210000, u210001] 95 (0, 0)) z10_ hb); clear hb hbox hg; have hnb101 := NB211_202.out; have hnc101 := NB202_211.out; have hnb102 := NB211_209.out; have hnc102 := NB209_211.out; obtain ⟨hcz103_0, hcz103_1, hcz103_2, hcz103_3, hfz103_0, hfz103_1, hfz103_2, hfz103_3⟩ := cs4_ BK211.out) | ((with_reducible refine gate_store (t := 168) (p := 7) rfl ?_); refine store_event (t := 168) (p := 7) (v := ?vo_w104) (w1 := ((((w100.setCell ⟨gb211, 0, none⟩ (.int .i64 ((rd_T168 l1 x6_1).f0))).setCell ⟨gb211, 1, none⟩ (.string ((rd_T168 l1 x6_1).f1))).setCell ⟨gb211, 2, none⟩ (.int .i64 ((rd_T168 l1 x6_1).f2.f0))).setCell ⟨gb211, 3, none⟩ (.int .i64 ((rd_T168 l1 x6_1).f2.f1)))) ?hg ?ho ?hn ?hr ?_; (case ho => rfl); (case hg => rfl); (case hn => rfl); (case hr => exact z177_); intro w104 hw; have n0_ : Aside0 (Kd.R Kd.string 9 w104 w.heap.size (fun _ => True) u210000 x210000_1) := ⟨(by rw [hw]; exact (by (with_reducible repeat (first | apply Kd.R_alloc | apply Kd.R_drewN | apply Kd.R_drew)); exact Kd.R_mono (Kd.R_far (p := ⟨gb211, 3, none⟩) (Kd.R_far (p := ⟨gb211, 2, none⟩) (Kd.R_far (p := ⟨gb211, 1, none⟩) (Kd.R_far (p := ⟨gb211, 0, none⟩) (Kd.R_types HO_210000.out BK211.out (by decide)) (fun _ hk => hk.2) (.int .i64 ((rd_T168 l1 x6_1).f0))) (fun _ hk => hk.2) (.string ((rd_T168 l1 x6_1).f1))) (fun _ hk => hk.2) (.int .i64 ((rd_T168 l1 x6_1).f2.f0))) (fun _ hk => hk.2) (.int .i64 ((rd_T168 l1 x6_1).f2.f1))) (fun _ hk => trivial)))⟩; have n1_ : Aside0 (Kd.R k166 166 w104 w.heap.size (fun _ => True) u210001 x210001_1) := ⟨(by rw [hw]; exact (by (with_reducible repeat (first | apply Kd.R_alloc | apply Kd.R_drewN | apply Kd.R_drew)); exact Kd.R_mono (Kd.R_far (p := ⟨gb211, 3, none⟩) (Kd.R_far (p := ⟨gb211, 2, none⟩) (Kd.R_far (p := ⟨gb211, 1, none⟩) (Kd.R_far (p := ⟨gb211, 0, none⟩) (Kd.R_types HO_210001.out BK211.out (by decide)) (fun _ hk => hk.2) (.int .i64 ((rd_T168 l1 x6_1).f0))) (fun _ hk => hk.2) (.string ((rd_T168 l1 x6_1).f1))) (fun _ hk => hk.2) (.int .i64 ((rd_T168 l1 x6_1).f2.f0))) (fun _ hk => hk.2) (.int .i64 ((rd_T168 l1 x6_1).f2.f1))) (fun _ hk => trivial)))⟩; have n2_ : Aside0 (w104.heap[gb202]? = some (.cells #[.slice none 0 0, .slice none 0 0] 95 (0, 0))) := ⟨z174_⟩; have n3_ : Aside0 (w104.heap[gb209]? = some (.cells #[u210000, u210001] 95 (0, 0))) := ⟨z175_⟩; have n4_ : Aside0 (w104.heap[gb211]? = some (.cells #[.int .i64 ((rd_T168 l1 x6_1).f0), .string ((rd_T168 l1 x6_1).f1), .int .i64 ((rd_T168 l1 x6_1).f2.f0), .int .i64 ((rd_T168 l1 x6_1).f2.f1)] 168 (0, 0))) := ⟨z176_⟩; have n5_ : Aside0 (Below w.heap.size w w104) := ⟨z173_⟩; clear hw; clear HO_210000; clear HO_210001; clear BK202; clear BK209; clear BK211; clear HB; have HO_210000 := n0_; have HO_210001 := n1_; have BK202 := n2_; have BK209 := n3_; have BK211 := n4_; have HB := n5_; clear n0_ n1_ n2_ n3_ n4_ n5_; obtain ⟨hcz105_0, hcz105_1, hcz105_2, hcz105_3, hfz105_0, hfz105_1, hfz105_2, hfz105_3⟩ := cs4_ BK211.out; have hnb106 := NB209_202.out; have hnc106 := NB202_209.out; obtain ⟨hcz107_0, hcz107_1, hfz107_0, hfz107_1⟩ := cs2_ BK209.out; obtain ⟨Ao108, co108, eo108⟩ := Kd.R_slice HO_210000.out; subst eo108) | ((with_reducible refine gate_callee (f := 106) rfl ?_); refine goesL_ (some 26) rfl rfl Try.func106 (by kernel_rfl) rfl #[.int .i64 ((rd_T168 l1 x6_1).f0), .int .i64 0, .int .i64 (wrap64 ((x210000_1.length : Int) - 1))] rfl z2_ ?_; (with_reducible refine (spec_l1In.calls ((rd_T168 l1 x6_1).f0) 0 (wrap64 ((x210000_1.length : Int) - 1)) false _ A16.out).mono ?_); rintro e w' ⟨rfl, ⟨nd, rfl⟩⟩; refine ⟨_, rfl, ?_⟩; (try (rw [drewN_self w104]; generalize hq_ : World.drewN w104 _ = w104; have n0_ : Aside0 (Kd.R Kd.string 9 w104 w.heap.size (fun _ => True) (.slice Ao108 x210000_1.length co108) x210000_1) := ⟨z167_⟩; have n1_ : Aside0 (Kd.R k166 166 w104 w.heap.size (fun _ => True) u210001 x210001_1) := ⟨z168_⟩; have n2_ : Aside0 (w104.heap[gb202]? = some (.cells #[.slice none 0 0, .slice none 0 0] 95 (0, 0))) := ⟨z172_⟩; have n3_ : Aside0 (w104.heap[gb209]? = some (.cells #[.slice Ao108 x210000_1.length co108, u210001] 95 (0, 0))) := ⟨z169_⟩; have n4_ : Aside0 (w104.heap[gb211]? = some (.cells #[.int .i64 ((rd_T168 l1 x6_1).f0), .string ((rd_T168 l1 x6_1).f1), .int .i64 ((rd_T168 l1 x6_1).f2.f0), .int .i64 ((rd_T168 l1 x6_1).f2.f1)] 168 (0, 0))) := ⟨z170_⟩; have n5_ : Aside0 (Below w.heap.size w w104) := ⟨z171_⟩; clear HO_210000 HO_210001 BK202 BK209 BK211 HB hq_; have HO_210000 := n0_; have HO_210001 := n1_; have BK202 := n2_; have BK209 := n3_; have BK211 := n4_; have HB := n5_; clear n0_ n1_ n2_ n3_ n4_ n5_)); obtain ⟨hcq202_0, hcq202_1, hfq202_0, hfq202_1⟩ := cs2_ BK202.out; obtain ⟨hcq209_0, hcq209_1, hfq209_0, hfq209_1⟩ := cs2_ BK209.out; obtain ⟨hcq211_0, hcq211_1, hcq211_2, hcq211_3, hfq211_0, hfq211_1, hfq211_2, hfq211_3⟩ := cs4_ BK211.out; obtain ⟨Ao109, co109, eo109⟩ := Kd.R_slice HO_210001.out; subst eo109; have p99 : 0 ≤ ((ji97) : Int) := of_decide_eq_true z1_; have q99 : ((ji97) : Int) < ((x210001_1.length : Int) : Int) := of_decide_eq_true z1_; obtain ⟨go99, co99, eo99, gb99, gl99, cl99, HG99⟩ := Kd.R_form HO_210001.out (by omega); (first | cases eo99 | (injection eo99 with ea_ en_ ec_; (first | subst ea_ | (injection ea_ with ea_; subst ea_)); subst ec_; clear en_)); have GB99 := q_ gb99; have GG99 := q_ HG99; clear gb99 gl99 HG99; obtain ⟨ce99, hcl99, hM99, hcc99, hfr99⟩ := Kd.R_elem HO_210001.out z166 ((ji97) : Int) p99 q99; obtain rfl := k166_openM hM99; have hx99_0 : w104.cell? ⟨go99, ((ji97) : Int).toNat * 2, none⟩ = some (.int .i64 ((rd_T166 x210001_1 (ji97)).f0)) := hcc99 0 _ rfl; have hx99_1 : w104.cell? ⟨go99, ((ji97) : Int).toNat * 2 + 1, none⟩ = some (.int .i64 ((rd_T166 x210001_1 (ji97)).f1)) := hcc99 1 _ rfl; have hf99_0 : w104.frozen? ⟨go99, ((ji97) : Int).toNat * 2, none⟩ = false := hfr99 0; have hf99_1 : w104.frozen? ⟨go99, ((ji97) : Int).toNat * 2 + 1, none⟩ = false := hfr99 1; clear hcl99 hcc99 hfr99 hM99; replace p99 := eq_true p99; replace q99 := eq_true q99; have HX110 := q_ (show Kd.R k166 166 w104 w.heap.size (fun _ => True) (.slice (some ⟨go99, 0, none⟩) x210001_1.length co109) x210001_1 from z18_); obtain ⟨ce110, hcl110, hM110, hcc110, hfr110⟩ := Kd.R_elem HX110.out z166 ((ji97) : Int) (of_decide_eq_true z1_) z155_; obtain rfl := k166_openM hM110; have HP110 := Kd.R_seg HX110.out ((ji97) : Int) (of_decide_eq_true z1_) z155_ (seg := [.int .i64 ((rd_T168 l1 x6_1).f2.f0), .int .i64 ((rd_T168 l1 x6_1).f2.f1)]) (j := 0) hcl110 hcc110 (show 2 ≤ 2 from by decide) (x' := (⟨(rd_T168 l1 x6_1).f2.f0, (rd_T168 l1 x6_1).f2.f1⟩ : S166)) (k166_mkM _ _ _ (⟨(rd_T168 l1 x6_1).f2.f0, (rd_T168 l1 x6_1).f2.f1⟩ : S166) ) (fun _ hk => hk); have hx110_0 := hcc110 0 _ rfl; (try simp only [show (k166).sz = 2 from rfl, Nat.mul_one, Nat.add_zero] at hx110_0); have hf110_0 := hfr110 0; (try simp only [show (k166).sz = 2 from rfl, Nat.mul_one, Nat.add_zero] at hf110_0); have hx110_1 := hcc110 1 _ rfl; (try simp only [show (k166).sz = 2 from rfl, Nat.mul_one, Nat.add_zero] at hx110_1); have hf110_1 := hfr110 1; (try simp only [show (k166).sz = 2 from rfl, Nat.mul_one, Nat.add_zero] at hf110_1); clear hcl110 hcc110 hfr110 hM110) | ((with_reducible refine gate_store (t := 166) (p := 58) rfl ?_); refine store_event (t := 166) (p := 58) (v := ?vo_w111) (w1 := ((w104.setCell ⟨go99, ((ji97) : Int).toNat * 2, none⟩ (.int .i64 ((rd_T168 l1 x6_1).f2.f0))).setCell ⟨go99, ((ji97) : Int).toNat * 2 + 1, none⟩ (.int .i64 ((rd_T168 l1 x6_1).f2.f1)))) ?hg ?ho ?hn ?hr ?_; (case ho => rfl); (case hg => rfl); (case hn => rfl); (case hr => exact z177_); intro w111 hw; have hg : w104.grownBy w111 (some go99) := (by rw [hw]; exact HP110.2); have hp_ : Kd.R k166 166 w111 w.heap.size (fun _ => True) (.slice (some ⟨go99, 0, none⟩) x210001_1.length co109) y216 := (by rw [hw, Ny216.out]; exact HP110.1); clear HP110; replace HO_210000 := q_ (Kd.R_over' (v := (.slice (some ⟨go99, 0, none⟩) x210001_1.length co109)) z21_ (Kd.R_typed HO_210001.out) (by decide) hg); replace BK202 := q_ (blk_grown (g := gb202) (o := .cells #[.slice none 0 0, .slice none 0 0] 95 (0, 0)) z6_ hg (Kd.R_ne HO_210001.out BK202.out (by decide))); replace BK209 := q_ (blk_grown (g := gb209) (o := .cells #[.slice Ao108 x210000_1.length co108, .slice (some ⟨go99, 0, none⟩) x210001_1.length co109] 95 (0, 0)) z10_ hg (Kd.R_ne HO_210001.out BK209.out (by decide))); replace BK211 := q_ (blk_grown (g := gb211) (o := .cells #[.int .i64 ((rd_T168 l1 x6_1).f0), .string ((rd_T168 l1 x6_1).f1), .int .i64 ((rd_T168 l1 x6_1).f2.f0), .int .i64 ((rd_T168 l1 x6_1).f2.f1)] 168 (0, 0)) z33_ hg (Kd.R_ne HO_210001.out BK211.out (by decide))); replace HO_210001 := q_ (hp_); replace HB := q_ ((by rw [hw]; exact below_set (below_set (HB.out) GB99.out) GB99.out : Below w.heap.size w w111)); clear hg hw hp_))
         go_roundg k1
         case measure => have := HK1.out; omega
         case rel => exact ⟨(wrap64 (x6_1 + 1)), (x210000_1), (y216), (.slice Ao108 x210000_1.length co108), (.slice (some ⟨go99, 0, none⟩) x210001_1.length co109), z14_, H', ⟨z70_⟩, ⟨z21_⟩, ⟨z18_⟩, ⟨z6_⟩, ⟨z10_⟩, ⟨z11_⟩⟩
        ·rw [if_neg c98] at H
         exact absurd H (by simp)
       ·rw [if_neg c96] at H
        have c96b0 : decide ((wrap64 ((-1) - ((rd_T168 l1 x6_1).f0))) < (x210001_1.length : Int)) = false := decide_eq_false c96
        clear c96
        have H' := q_ H
        clear H
        have p210 : 0 ≤ (x6_1 : Int) := of_decide_eq_true z1_
        have q210 : x6_1 < (l1.length : Int) := of_decide_eq_true z1_
        obtain ⟨ad210, e210, hx210_0, hx210_1, hx210_2, hx210_3⟩ := at_T168 HR1.out x6_1 p210 q210
        cases e210
        replace hx210_0 := up_ HB hx210_0
        replace hx210_1 := up_ HB hx210_1
        replace hx210_2 := up_ HB hx210_2
        replace hx210_3 := up_ HB hx210_3
        replace p210 := eq_true p210
        replace q210 := eq_true q210
        go_wp2_with (first | ((with_reducible refine gate_dst (N := 7) rfl ?_); (try (refine gate_guard (by rfl) ?_; dsimp only)); refine box_event ?hg (N := 7) ?hd (cs := #[.int .i64 0, .string (⟨#[]⟩ : ByteArray), .int .i64 0, .int .i64 0]) (t := 168) ?hr ?_; (case hd => rfl); (case hg => rfl); (case hr => exact z177_); intro gb211 hg w112 hbox hb; replace HO_210000 := q_ (Kd.R_below z21_ hb); replace HO_210001 := q_ (Kd.R_below z18_ hb); have BK211 := q_ (hbox); have GW211 := q_ ((z145_ : w.heap.size ≤ gb211)); have GE211 := q_ ((z145_ : w.heap.size ≤ gb211)); replace HB := q_ (below_step z9_ hb); have NB202_211 := q_ ((z139_ : gb202 ≠ gb211)); have NB211_202 := q_ ((z140_ : gb211 ≠ gb202)); replace BK202 := q_ (blk_below (g := gb202) (o := .cells #[.slice none 0 0, .slice none 0 0] 95 (0, 0)) z6_ hb); have NB209_211 := q_ ((z142_ : gb209 ≠ gb211)); have NB211_209 := q_ ((z143_ : gb211 ≠ gb209)); replace BK209 := q_ (blk_below (g := gb209) (o := .cells #[u210000, u210001] 95 (0, 0)) z10_ hb); clear hb hbox hg; have hnb113 := NB211_202.out; have hnc113 := NB202_211.out; have hnb114 := NB211_209.out; have hnc114 := NB209_211.out; obtain ⟨hcz115_0, hcz115_1, hcz115_2, hcz115_3, hfz115_0, hfz115_1, hfz115_2, hfz115_3⟩ := cs4_ BK211.out; have hnb116 := NB209_202.out; have hnc116 := NB202_209.out; obtain ⟨hcz117_0, hcz117_1, hfz117_0, hfz117_1⟩ := cs2_ BK209.out; obtain ⟨Ao118, co118, eo118⟩ := Kd.R_slice HO_210000.out; subst eo118) | ((with_reducible refine gate_callee (f := 106) rfl ?_); refine goesL_ (some 26) rfl rfl Try.func106 (by kernel_rfl) rfl #[.int .i64 ((rd_T168 l1 x6_1).f0), .int .i64 0, .int .i64 (wrap64 ((x210000_1.length : Int) - 1))] rfl z2_ ?_; (with_reducible refine (spec_l1In.calls ((rd_T168 l1 x6_1).f0) 0 (wrap64 ((x210000_1.length : Int) - 1)) false _ A16.out).mono ?_); rintro e w' ⟨rfl, ⟨nd, rfl⟩⟩; refine ⟨_, rfl, ?_⟩; obtain ⟨Ao119, co119, eo119⟩ := Kd.R_slice HO_210001.out; subst eo119))
        go_roundg k1
        case measure => have := HK1.out; omega
        case rel => exact ⟨(wrap64 (x6_1 + 1)), (x210000_1), (x210001_1), (.slice Ao118 x210000_1.length co118), (.slice Ao119 x210001_1.length co119), z14_, H', ⟨z70_⟩, ⟨by (with_reducible repeat (first | apply Kd.R_alloc | apply Kd.R_drewN | apply Kd.R_drew)); exact Kd.R_mono (Kd.R_far (p := ⟨gb211, 3, none⟩) (Kd.R_far (p := ⟨gb211, 2, none⟩) (Kd.R_far (p := ⟨gb211, 1, none⟩) (Kd.R_far (p := ⟨gb211, 0, none⟩) (Kd.R_types HO_210000.out BK211.out (by decide)) (fun _ hk => hk.2) (.int .i64 ((rd_T168 l1 x6_1).f0))) (fun _ hk => hk.2) (.string ((rd_T168 l1 x6_1).f1))) (fun _ hk => hk.2) (.int .i64 ((rd_T168 l1 x6_1).f2.f0))) (fun _ hk => hk.2) (.int .i64 ((rd_T168 l1 x6_1).f2.f1))) (fun _ hk => trivial)⟩, ⟨by (with_reducible repeat (first | apply Kd.R_alloc | apply Kd.R_drewN | apply Kd.R_drew)); exact Kd.R_mono (Kd.R_far (p := ⟨gb211, 3, none⟩) (Kd.R_far (p := ⟨gb211, 2, none⟩) (Kd.R_far (p := ⟨gb211, 1, none⟩) (Kd.R_far (p := ⟨gb211, 0, none⟩) (Kd.R_types HO_210001.out BK211.out (by decide)) (fun _ hk => hk.2) (.int .i64 ((rd_T168 l1 x6_1).f0))) (fun _ hk => hk.2) (.string ((rd_T168 l1 x6_1).f1))) (fun _ hk => hk.2) (.int .i64 ((rd_T168 l1 x6_1).f2.f0))) (fun _ hk => hk.2) (.int .i64 ((rd_T168 l1 x6_1).f2.f1))) (fun _ hk => trivial)⟩, ⟨z7_⟩, ⟨z8_⟩, ⟨z11_⟩⟩
      ·rw [if_neg c95] at H
       have c95b0 : (((rd_T168 l1 x6_1).f0) == (-1)) = false := beq_eq_false_iff_ne.mpr c95
       have c95b1 : (((rd_T168 l1 x6_1).f0) != (-1)) = true := bne_iff_ne.mpr c95
       by_cases c120 : ((rd_T168 l1 x6_1).f0) = (-2)
       ·rw [if_pos c120] at H
        have c120b0 : (((rd_T168 l1 x6_1).f0) == (-2)) = true := beq_iff_eq.mpr c120
        have c120b1 : (((rd_T168 l1 x6_1).f0) != (-2)) = false := bne_eq_false_iff_eq.mpr c120
        clear c120
        by_cases c121 : (wrap64 ((-1) - ((rd_T168 l1 x6_1).f0))) < (x210001_1.length : Int)
        ·rw [if_pos c121] at H
         have c121b0 : decide ((wrap64 ((-1) - ((rd_T168 l1 x6_1).f0))) < (x210001_1.length : Int)) = true := decide_eq_true c121
         clear c121
         obtain ⟨ji122, hji122⟩ : ∃ j_ : Int, (wrap64 ((-1) - ((rd_T168 l1 x6_1).f0))) = j_ := ⟨_, rfl⟩
         replace H : (if 0 ≤ (ji122) then (spec_Do.l0 k1 l1 (wrap64 (x6_1 + 1)) x210000_1 (x210001_1.set ((ji122) : Int).toNat (⟨(rd_T168 l1 x6_1).f2.f0, (rd_T168 l1 x6_1).f2.f1⟩ : S166))) else (none)) = some (r1, r2) := by first | (rw [hji122] at H; exact H) | (simp only [hji122] at H ⊢; exact H)
         (try rw [hji122] at c121b0)
         (try rw [hji122] at hji23)
         (try rw [hji122] at hji23w)
         (try rw [hji122] at hji73)
         (try rw [hji122] at hji73w)
         (try rw [hji122] at hji97)
         (try rw [hji122] at hji97w)
         (try rw [hji122] at A16)
         have hji122w : (IntKind.i64.wrap ((-1) - ((rd_T168 l1 x6_1).f0))) = ji122 := (i64_w _).trans hji122
         by_cases c123 : 0 ≤ (ji122)
         ·rw [if_pos c123] at H
          have c123b0 : decide (0 ≤ (ji122)) = true := decide_eq_true c123
          clear c123
          obtain ⟨y217, hy_⟩ : ∃ y_ : List (S166), y_ = (x210001_1.set ((ji122) : Int).toNat (⟨(rd_T168 l1 x6_1).f2.f0, (rd_T168 l1 x6_1).f2.f1⟩ : S166)) := ⟨_, rfl⟩
          replace H : (spec_Do.l0 k1 l1 (wrap64 (x6_1 + 1)) x210000_1 y217) = some (r1, r2) := z3_
          have Ny217 := q_ hy_
          clear hy_
          have H' := q_ H
          clear H
          have p210 : 0 ≤ (x6_1 : Int) := of_decide_eq_true z1_
          have q210 : x6_1 < (l1.length : Int) := of_decide_eq_true z1_
          obtain ⟨ad210, e210, hx210_0, hx210_1, hx210_2, hx210_3⟩ := at_T168 HR1.out x6_1 p210 q210
          cases e210
          replace hx210_0 := up_ HB hx210_0
          replace hx210_1 := up_ HB hx210_1
          replace hx210_2 := up_ HB hx210_2
          replace hx210_3 := up_ HB hx210_3
          replace p210 := eq_true p210
          replace q210 := eq_true q210
          go_wp2_with (first | ((with_reducible refine gate_dst (N := 7) rfl ?_); (try (refine gate_guard (by rfl) ?_; dsimp only)); refine box_event ?hg (N := 7) ?hd (cs := #[.int .i64 0, .string (⟨#[]⟩ : ByteArray), .int .i64 0, .int .i64 0]) (t := 168) ?hr ?_; (case hd => rfl); (case hg => rfl); (case hr => exact z177_); intro gb211 hg w125 hbox hb; replace HO_210000 := q_ (Kd.R_below z21_ hb); replace HO_210001 := q_ (Kd.R_below z18_ hb); have BK211 := q_ (hbox); have GW211 := q_ ((z145_ : w.heap.size ≤ gb211)); have GE211 := q_ ((z145_ : w.heap.size ≤ gb211)); replace HB := q_ (below_step z9_ hb); have NB202_211 := q_ ((z139_ : gb202 ≠ gb211)); have NB211_202 := q_ ((z140_ : gb211 ≠ gb202)); replace BK202 := q_ (blk_below (g := gb202) (o := .cells #[.slice none 0 0, .slice none 0 0] 95 (0, 0)) z6_ hb); have NB209_211 := q_ ((z142_ : gb209 ≠ gb211)); have NB211_209 := q_ ((z143_ : gb211 ≠ gb209)); replace BK209 := q_ (blk_below (g := gb209) (o := .cells #[u210000, u210001] 95 (0, 0)) z10_ hb); clear hb hbox hg; have hnb126 := NB211_202.out; have hnc126 := NB202_211.out; have hnb127 := NB211_209.out; have hnc127 := NB209_211.out; obtain ⟨hcz128_0, hcz128_1, hcz128_2, hcz128_3, hfz128_0, hfz128_1, hfz128_2, hfz128_3⟩ := cs4_ BK211.out) | ((with_reducible refine gate_store (t := 168) (p := 7) rfl ?_); refine store_event (t := 168) (p := 7) (v := ?vo_w129) (w1 := ((((w125.setCell ⟨gb211, 0, none⟩ (.int .i64 ((rd_T168 l1 x6_1).f0))).setCell ⟨gb211, 1, none⟩ (.string ((rd_T168 l1 x6_1).f1))).setCell ⟨gb211, 2, none⟩ (.int .i64 ((rd_T168 l1 x6_1).f2.f0))).setCell ⟨gb211, 3, none⟩ (.int .i64 ((rd_T168 l1 x6_1).f2.f1)))) ?hg ?ho ?hn ?hr ?_; (case ho => rfl); (case hg => rfl); (case hn => rfl); (case hr => exact z177_); intro w129 hw; have n0_ : Aside0 (Kd.R Kd.string 9 w129 w.heap.size (fun _ => True) u210000 x210000_1) := ⟨(by rw [hw]; exact (by (with_reducible repeat (first | apply Kd.R_alloc | apply Kd.R_drewN | apply Kd.R_drew)); exact Kd.R_mono (Kd.R_far (p := ⟨gb211, 3, none⟩) (Kd.R_far (p := ⟨gb211, 2, none⟩) (Kd.R_far (p := ⟨gb211, 1, none⟩) (Kd.R_far (p := ⟨gb211, 0, none⟩) (Kd.R_types HO_210000.out BK211.out (by decide)) (fun _ hk => hk.2) (.int .i64 ((rd_T168 l1 x6_1).f0))) (fun _ hk => hk.2) (.string ((rd_T168 l1 x6_1).f1))) (fun _ hk => hk.2) (.int .i64 ((rd_T168 l1 x6_1).f2.f0))) (fun _ hk => hk.2) (.int .i64 ((rd_T168 l1 x6_1).f2.f1))) (fun _ hk => trivial)))⟩; have n1_ : Aside0 (Kd.R k166 166 w129 w.heap.size (fun _ => True) u210001 x210001_1) := ⟨(by rw [hw]; exact (by (with_reducible repeat (first | apply Kd.R_alloc | apply Kd.R_drewN | apply Kd.R_drew)); exact Kd.R_mono (Kd.R_far (p := ⟨gb211, 3, none⟩) (Kd.R_far (p := ⟨gb211, 2, none⟩) (Kd.R_far (p := ⟨gb211, 1, none⟩) (Kd.R_far (p := ⟨gb211, 0, none⟩) (Kd.R_types HO_210001.out BK211.out (by decide)) (fun _ hk => hk.2) (.int .i64 ((rd_T168 l1 x6_1).f0))) (fun _ hk => hk.2) (.string ((rd_T168 l1 x6_1).f1))) (fun _ hk => hk.2) (.int .i64 ((rd_T168 l1 x6_1).f2.f0))) (fun _ hk => hk.2) (.int .i64 ((rd_T168 l1 x6_1).f2.f1))) (fun _ hk => trivial)))⟩; have n2_ : Aside0 (w129.heap[gb202]? = some (.cells #[.slice none 0 0, .slice none 0 0] 95 (0, 0))) := ⟨z174_⟩; have n3_ : Aside0 (w129.heap[gb209]? = some (.cells #[u210000, u210001] 95 (0, 0))) := ⟨z175_⟩; have n4_ : Aside0 (w129.heap[gb211]? = some (.cells #[.int .i64 ((rd_T168 l1 x6_1).f0), .string ((rd_T168 l1 x6_1).f1), .int .i64 ((rd_T168 l1 x6_1).f2.f0), .int .i64 ((rd_T168 l1 x6_1).f2.f1)] 168 (0, 0))) := ⟨z176_⟩; have n5_ : Aside0 (Below w.heap.size w w129) := ⟨z173_⟩; clear hw; clear HO_210000; clear HO_210001; clear BK202; clear BK209; clear BK211; clear HB; have HO_210000 := n0_; have HO_210001 := n1_; have BK202 := n2_; have BK209 := n3_; have BK211 := n4_; have HB := n5_; clear n0_ n1_ n2_ n3_ n4_ n5_; obtain ⟨hcz130_0, hcz130_1, hcz130_2, hcz130_3, hfz130_0, hfz130_1, hfz130_2, hfz130_3⟩ := cs4_ BK211.out; have hnb131 := NB209_202.out; have hnc131 := NB202_209.out; obtain ⟨hcz132_0, hcz132_1, hfz132_0, hfz132_1⟩ := cs2_ BK209.out; obtain ⟨Ao133, co133, eo133⟩ := Kd.R_slice HO_210000.out; subst eo133) | ((with_reducible refine gate_callee (f := 106) rfl ?_); refine goesL_ (some 26) rfl rfl Try.func106 (by kernel_rfl) rfl #[.int .i64 ((rd_T168 l1 x6_1).f0), .int .i64 0, .int .i64 (wrap64 ((x210000_1.length : Int) - 1))] rfl z2_ ?_; (with_reducible refine (spec_l1In.calls ((rd_T168 l1 x6_1).f0) 0 (wrap64 ((x210000_1.length : Int) - 1)) false _ A16.out).mono ?_); rintro e w' ⟨rfl, ⟨nd, rfl⟩⟩; refine ⟨_, rfl, ?_⟩; (try (rw [drewN_self w129]; generalize hq_ : World.drewN w129 _ = w129; have n0_ : Aside0 (Kd.R Kd.string 9 w129 w.heap.size (fun _ => True) (.slice Ao133 x210000_1.length co133) x210000_1) := ⟨z167_⟩; have n1_ : Aside0 (Kd.R k166 166 w129 w.heap.size (fun _ => True) u210001 x210001_1) := ⟨z168_⟩; have n2_ : Aside0 (w129.heap[gb202]? = some (.cells #[.slice none 0 0, .slice none 0 0] 95 (0, 0))) := ⟨z172_⟩; have n3_ : Aside0 (w129.heap[gb209]? = some (.cells #[.slice Ao133 x210000_1.length co133, u210001] 95 (0, 0))) := ⟨z169_⟩; have n4_ : Aside0 (w129.heap[gb211]? = some (.cells #[.int .i64 ((rd_T168 l1 x6_1).f0), .string ((rd_T168 l1 x6_1).f1), .int .i64 ((rd_T168 l1 x6_1).f2.f0), .int .i64 ((rd_T168 l1 x6_1).f2.f1)] 168 (0, 0))) := ⟨z170_⟩; have n5_ : Aside0 (Below w.heap.size w w129) := ⟨z171_⟩; clear HO_210000 HO_210001 BK202 BK209 BK211 HB hq_; have HO_210000 := n0_; have HO_210001 := n1_; have BK202 := n2_; have BK209 := n3_; have BK211 := n4_; have HB := n5_; clear n0_ n1_ n2_ n3_ n4_ n5_)); obtain ⟨hcq202_0, hcq202_1, hfq202_0, hfq202_1⟩ := cs2_ BK202.out; obtain ⟨hcq209_0, hcq209_1, hfq209_0, hfq209_1⟩ := cs2_ BK209.out; obtain ⟨hcq211_0, hcq211_1, hcq211_2, hcq211_3, hfq211_0, hfq211_1, hfq211_2, hfq211_3⟩ := cs4_ BK211.out; obtain ⟨Ao134, co134, eo134⟩ := Kd.R_slice HO_210001.out; subst eo134; have p124 : 0 ≤ ((ji122) : Int) := of_decide_eq_true z1_; have q124 : ((ji122) : Int) < ((x210001_1.length : Int) : Int) := of_decide_eq_true z1_; obtain ⟨go124, co124, eo124, gb124, gl124, cl124, HG124⟩ := Kd.R_form HO_210001.out (by omega); (first | cases eo124 | (injection eo124 with ea_ en_ ec_; (first | subst ea_ | (injection ea_ with ea_; subst ea_)); subst ec_; clear en_)); have GB124 := q_ gb124; have GG124 := q_ HG124; clear gb124 gl124 HG124; obtain ⟨ce124, hcl124, hM124, hcc124, hfr124⟩ := Kd.R_elem HO_210001.out z166 ((ji122) : Int) p124 q124; obtain rfl := k166_openM hM124; have hx124_0 : w129.cell? ⟨go124, ((ji122) : Int).toNat * 2, none⟩ = some (.int .i64 ((rd_T166 x210001_1 (ji122)).f0)) := hcc124 0 _ rfl; have hx124_1 : w129.cell? ⟨go124, ((ji122) : Int).toNat * 2 + 1, none⟩ = some (.int .i64 ((rd_T166 x210001_1 (ji122)).f1)) := hcc124 1 _ rfl; have hf124_0 : w129.frozen? ⟨go124, ((ji122) : Int).toNat * 2, none⟩ = false := hfr124 0; have hf124_1 : w129.frozen? ⟨go124, ((ji122) : Int).toNat * 2 + 1, none⟩ = false := hfr124 1; clear hcl124 hcc124 hfr124 hM124; replace p124 := eq_true p124; replace q124 := eq_true q124; have HX135 := q_ (show Kd.R k166 166 w129 w.heap.size (fun _ => True) (.slice (some ⟨go124, 0, none⟩) x210001_1.length co134) x210001_1 from z18_); obtain ⟨ce135, hcl135, hM135, hcc135, hfr135⟩ := Kd.R_elem HX135.out z166 ((ji122) : Int) (of_decide_eq_true z1_) z152_; obtain rfl := k166_openM hM135; have HP135 := Kd.R_seg HX135.out ((ji122) : Int) (of_decide_eq_true z1_) z152_ (seg := [.int .i64 ((rd_T168 l1 x6_1).f2.f0), .int .i64 ((rd_T168 l1 x6_1).f2.f1)]) (j := 0) hcl135 hcc135 (show 2 ≤ 2 from by decide) (x' := (⟨(rd_T168 l1 x6_1).f2.f0, (rd_T168 l1 x6_1).f2.f1⟩ : S166)) (k166_mkM _ _ _ (⟨(rd_T168 l1 x6_1).f2.f0, (rd_T168 l1 x6_1).f2.f1⟩ : S166) ) (fun _ hk => hk); have hx135_0 := hcc135 0 _ rfl; (try simp only [show (k166).sz = 2 from rfl, Nat.mul_one, Nat.add_zero] at hx135_0); have hf135_0 := hfr135 0; (try simp only [show (k166).sz = 2 from rfl, Nat.mul_one, Nat.add_zero] at hf135_0); have hx135_1 := hcc135 1 _ rfl; (try simp only [show (k166).sz = 2 from rfl, Nat.mul_one, Nat.add_zero] at hx135_1); have hf135_1 := hfr135 1; (try simp only [show (k166).sz = 2 from rfl, Nat.mul_one, Nat.add_zero] at hf135_1); clear hcl135 hcc135 hfr135 hM135) | ((with_reducible refine gate_store (t := 166) (p := 58) rfl ?_); refine store_event (t := 166) (p := 58) (v := ?vo_w136) (w1 := ((w129.setCell ⟨go124, ((ji122) : Int).toNat * 2, none⟩ (.int .i64 ((rd_T168 l1 x6_1).f2.f0))).setCell ⟨go124, ((ji122) : Int).toNat * 2 + 1, none⟩ (.int .i64 ((rd_T168 l1 x6_1).f2.f1)))) ?hg ?ho ?hn ?hr ?_; (case ho => rfl); (case hg => rfl); (case hn => rfl); (case hr => exact z177_); intro w136 hw; have hg : w129.grownBy w136 (some go124) := (by rw [hw]; exact HP135.2); have hp_ : Kd.R k166 166 w136 w.heap.size (fun _ => True) (.slice (some ⟨go124, 0, none⟩) x210001_1.length co134) y217 := (by rw [hw, Ny217.out]; exact HP135.1); clear HP135; replace HO_210000 := q_ (Kd.R_over' (v := (.slice (some ⟨go124, 0, none⟩) x210001_1.length co134)) z21_ (Kd.R_typed HO_210001.out) (by decide) hg); replace BK202 := q_ (blk_grown (g := gb202) (o := .cells #[.slice none 0 0, .slice none 0 0] 95 (0, 0)) z6_ hg (Kd.R_ne HO_210001.out BK202.out (by decide))); replace BK209 := q_ (blk_grown (g := gb209) (o := .cells #[.slice Ao133 x210000_1.length co133, .slice (some ⟨go124, 0, none⟩) x210001_1.length co134] 95 (0, 0)) z10_ hg (Kd.R_ne HO_210001.out BK209.out (by decide))); replace BK211 := q_ (blk_grown (g := gb211) (o := .cells #[.int .i64 ((rd_T168 l1 x6_1).f0), .string ((rd_T168 l1 x6_1).f1), .int .i64 ((rd_T168 l1 x6_1).f2.f0), .int .i64 ((rd_T168 l1 x6_1).f2.f1)] 168 (0, 0)) z33_ hg (Kd.R_ne HO_210001.out BK211.out (by decide))); replace HO_210001 := q_ (hp_); replace HB := q_ ((by rw [hw]; exact below_set (below_set (HB.out) GB124.out) GB124.out : Below w.heap.size w w136)); clear hg hw hp_))
          go_roundg k1
          case measure => have := HK1.out; omega
          case rel => exact ⟨(wrap64 (x6_1 + 1)), (x210000_1), (y217), (.slice Ao133 x210000_1.length co133), (.slice (some ⟨go124, 0, none⟩) x210001_1.length co134), z14_, H', ⟨z70_⟩, ⟨z21_⟩, ⟨z18_⟩, ⟨z6_⟩, ⟨z10_⟩, ⟨z11_⟩⟩
         ·rw [if_neg c123] at H
          exact absurd H (by simp)
        ·rw [if_neg c121] at H
         have c121b0 : decide ((wrap64 ((-1) - ((rd_T168 l1 x6_1).f0))) < (x210001_1.length : Int)) = false := decide_eq_false c121
         clear c121
         have H' := q_ H
         clear H
         have p210 : 0 ≤ (x6_1 : Int) := of_decide_eq_true z1_
         have q210 : x6_1 < (l1.length : Int) := of_decide_eq_true z1_
         obtain ⟨ad210, e210, hx210_0, hx210_1, hx210_2, hx210_3⟩ := at_T168 HR1.out x6_1 p210 q210
         cases e210
         replace hx210_0 := up_ HB hx210_0
         replace hx210_1 := up_ HB hx210_1
         replace hx210_2 := up_ HB hx210_2
         replace hx210_3 := up_ HB hx210_3
         replace p210 := eq_true p210
         replace q210 := eq_true q210
         go_wp2_with (first | ((with_reducible refine gate_dst (N := 7) rfl ?_); (try (refine gate_guard (by rfl) ?_; dsimp only)); refine box_event ?hg (N := 7) ?hd (cs := #[.int .i64 0, .string (⟨#[]⟩ : ByteArray), .int .i64 0, .int .i64 0]) (t := 168) ?hr ?_; (case hd => rfl); (case hg => rfl); (case hr => exact z177_); intro gb211 hg w137 hbox hb; replace HO_210000 := q_ (Kd.R_below z21_ hb); replace HO_210001 := q_ (Kd.R_below z18_ hb); have BK211 := q_ (hbox); have GW211 := q_ ((z145_ : w.heap.size ≤ gb211)); have GE211 := q_ ((z145_ : w.heap.size ≤ gb211)); replace HB := q_ (below_step z9_ hb); have NB202_211 := q_ ((z139_ : gb202 ≠ gb211)); have NB211_202 := q_ ((z140_ : gb211 ≠ gb202)); replace BK202 := q_ (blk_below (g := gb202) (o := .cells #[.slice none 0 0, .slice none 0 0] 95 (0, 0)) z6_ hb); have NB209_211 := q_ ((z142_ : gb209 ≠ gb211)); have NB211_209 := q_ ((z143_ : gb211 ≠ gb209)); replace BK209 := q_ (blk_below (g := gb209) (o := .cells #[u210000, u210001] 95 (0, 0)) z10_ hb); clear hb hbox hg; have hnb138 := NB211_202.out; have hnc138 := NB202_211.out; have hnb139 := NB211_209.out; have hnc139 := NB209_211.out; obtain ⟨hcz140_0, hcz140_1, hcz140_2, hcz140_3, hfz140_0, hfz140_1, hfz140_2, hfz140_3⟩ := cs4_ BK211.out; have hnb141 := NB209_202.out; have hnc141 := NB202_209.out; obtain ⟨hcz142_0, hcz142_1, hfz142_0, hfz142_1⟩ := cs2_ BK209.out; obtain ⟨Ao143, co143, eo143⟩ := Kd.R_slice HO_210000.out; subst eo143) | ((with_reducible refine gate_callee (f := 106) rfl ?_); refine goesL_ (some 26) rfl rfl Try.func106 (by kernel_rfl) rfl #[.int .i64 ((rd_T168 l1 x6_1).f0), .int .i64 0, .int .i64 (wrap64 ((x210000_1.length : Int) - 1))] rfl z2_ ?_; (with_reducible refine (spec_l1In.calls ((rd_T168 l1 x6_1).f0) 0 (wrap64 ((x210000_1.length : Int) - 1)) false _ A16.out).mono ?_); rintro e w' ⟨rfl, ⟨nd, rfl⟩⟩; refine ⟨_, rfl, ?_⟩; obtain ⟨Ao144, co144, eo144⟩ := Kd.R_slice HO_210001.out; subst eo144))
         go_roundg k1
         case measure => have := HK1.out; omega
         case rel => exact ⟨(wrap64 (x6_1 + 1)), (x210000_1), (x210001_1), (.slice Ao143 x210000_1.length co143), (.slice Ao144 x210001_1.length co144), z14_, H', ⟨z70_⟩, ⟨by (with_reducible repeat (first | apply Kd.R_alloc | apply Kd.R_drewN | apply Kd.R_drew)); exact Kd.R_mono (Kd.R_far (p := ⟨gb211, 3, none⟩) (Kd.R_far (p := ⟨gb211, 2, none⟩) (Kd.R_far (p := ⟨gb211, 1, none⟩) (Kd.R_far (p := ⟨gb211, 0, none⟩) (Kd.R_types HO_210000.out BK211.out (by decide)) (fun _ hk => hk.2) (.int .i64 ((rd_T168 l1 x6_1).f0))) (fun _ hk => hk.2) (.string ((rd_T168 l1 x6_1).f1))) (fun _ hk => hk.2) (.int .i64 ((rd_T168 l1 x6_1).f2.f0))) (fun _ hk => hk.2) (.int .i64 ((rd_T168 l1 x6_1).f2.f1))) (fun _ hk => trivial)⟩, ⟨by (with_reducible repeat (first | apply Kd.R_alloc | apply Kd.R_drewN | apply Kd.R_drew)); exact Kd.R_mono (Kd.R_far (p := ⟨gb211, 3, none⟩) (Kd.R_far (p := ⟨gb211, 2, none⟩) (Kd.R_far (p := ⟨gb211, 1, none⟩) (Kd.R_far (p := ⟨gb211, 0, none⟩) (Kd.R_types HO_210001.out BK211.out (by decide)) (fun _ hk => hk.2) (.int .i64 ((rd_T168 l1 x6_1).f0))) (fun _ hk => hk.2) (.string ((rd_T168 l1 x6_1).f1))) (fun _ hk => hk.2) (.int .i64 ((rd_T168 l1 x6_1).f2.f0))) (fun _ hk => hk.2) (.int .i64 ((rd_T168 l1 x6_1).f2.f1))) (fun _ hk => trivial)⟩, ⟨z7_⟩, ⟨z8_⟩, ⟨z11_⟩⟩
       ·rw [if_neg c120] at H
        have c120b0 : (((rd_T168 l1 x6_1).f0) == (-2)) = false := beq_eq_false_iff_ne.mpr c120
        have c120b1 : (((rd_T168 l1 x6_1).f0) != (-2)) = true := bne_iff_ne.mpr c120
        have H' := q_ H
        clear H
        have p210 : 0 ≤ (x6_1 : Int) := of_decide_eq_true z1_
        have q210 : x6_1 < (l1.length : Int) := of_decide_eq_true z1_
        obtain ⟨ad210, e210, hx210_0, hx210_1, hx210_2, hx210_3⟩ := at_T168 HR1.out x6_1 p210 q210
        cases e210
        replace hx210_0 := up_ HB hx210_0
        replace hx210_1 := up_ HB hx210_1
        replace hx210_2 := up_ HB hx210_2
        replace hx210_3 := up_ HB hx210_3
        replace p210 := eq_true p210
        replace q210 := eq_true q210
        go_wp2_with (first | ((with_reducible refine gate_dst (N := 7) rfl ?_); (try (refine gate_guard (by rfl) ?_; dsimp only)); refine box_event ?hg (N := 7) ?hd (cs := #[.int .i64 0, .string (⟨#[]⟩ : ByteArray), .int .i64 0, .int .i64 0]) (t := 168) ?hr ?_; (case hd => rfl); (case hg => rfl); (case hr => exact z177_); intro gb211 hg w145 hbox hb; replace HO_210000 := q_ (Kd.R_below z21_ hb); replace HO_210001 := q_ (Kd.R_below z18_ hb); have BK211 := q_ (hbox); have GW211 := q_ ((z145_ : w.heap.size ≤ gb211)); have GE211 := q_ ((z145_ : w.heap.size ≤ gb211)); replace HB := q_ (below_step z9_ hb); have NB202_211 := q_ ((z139_ : gb202 ≠ gb211)); have NB211_202 := q_ ((z140_ : gb211 ≠ gb202)); replace BK202 := q_ (blk_below (g := gb202) (o := .cells #[.slice none 0 0, .slice none 0 0] 95 (0, 0)) z6_ hb); have NB209_211 := q_ ((z142_ : gb209 ≠ gb211)); have NB211_209 := q_ ((z143_ : gb211 ≠ gb209)); replace BK209 := q_ (blk_below (g := gb209) (o := .cells #[u210000, u210001] 95 (0, 0)) z10_ hb); clear hb hbox hg; have hnb146 := NB211_202.out; have hnc146 := NB202_211.out; have hnb147 := NB211_209.out; have hnc147 := NB209_211.out; obtain ⟨hcz148_0, hcz148_1, hcz148_2, hcz148_3, hfz148_0, hfz148_1, hfz148_2, hfz148_3⟩ := cs4_ BK211.out; have hnb149 := NB209_202.out; have hnc149 := NB202_209.out; obtain ⟨hcz150_0, hcz150_1, hfz150_0, hfz150_1⟩ := cs2_ BK209.out; obtain ⟨Ao151, co151, eo151⟩ := Kd.R_slice HO_210000.out; subst eo151) | ((with_reducible refine gate_callee (f := 106) rfl ?_); refine goesL_ (some 26) rfl rfl Try.func106 (by kernel_rfl) rfl #[.int .i64 ((rd_T168 l1 x6_1).f0), .int .i64 0, .int .i64 (wrap64 ((x210000_1.length : Int) - 1))] rfl z2_ ?_; (with_reducible refine (spec_l1In.calls ((rd_T168 l1 x6_1).f0) 0 (wrap64 ((x210000_1.length : Int) - 1)) false _ A16.out).mono ?_); rintro e w' ⟨rfl, ⟨nd, rfl⟩⟩; refine ⟨_, rfl, ?_⟩))
        go_roundg k1
        case measure => have := HK1.out; omega
        case rel => exact ⟨(wrap64 (x6_1 + 1)), (x210000_1), (x210001_1), (.slice Ao151 x210000_1.length co151), (u210001), z14_, H', ⟨z70_⟩, ⟨by (with_reducible repeat (first | apply Kd.R_alloc | apply Kd.R_drewN | apply Kd.R_drew)); exact Kd.R_mono (Kd.R_far (p := ⟨gb211, 3, none⟩) (Kd.R_far (p := ⟨gb211, 2, none⟩) (Kd.R_far (p := ⟨gb211, 1, none⟩) (Kd.R_far (p := ⟨gb211, 0, none⟩) (Kd.R_types HO_210000.out BK211.out (by decide)) (fun _ hk => hk.2) (.int .i64 ((rd_T168 l1 x6_1).f0))) (fun _ hk => hk.2) (.string ((rd_T168 l1 x6_1).f1))) (fun _ hk => hk.2) (.int .i64 ((rd_T168 l1 x6_1).f2.f0))) (fun _ hk => hk.2) (.int .i64 ((rd_T168 l1 x6_1).f2.f1))) (fun _ hk => trivial)⟩, ⟨by (with_reducible repeat (first | apply Kd.R_alloc | apply Kd.R_drewN | apply Kd.R_drew)); exact Kd.R_mono (Kd.R_far (p := ⟨gb211, 3, none⟩) (Kd.R_far (p := ⟨gb211, 2, none⟩) (Kd.R_far (p := ⟨gb211, 1, none⟩) (Kd.R_far (p := ⟨gb211, 0, none⟩) (Kd.R_types HO_210001.out BK211.out (by decide)) (fun _ hk => hk.2) (.int .i64 ((rd_T168 l1 x6_1).f0))) (fun _ hk => hk.2) (.string ((rd_T168 l1 x6_1).f1))) (fun _ hk => hk.2) (.int .i64 ((rd_T168 l1 x6_1).f2.f0))) (fun _ hk => hk.2) (.int .i64 ((rd_T168 l1 x6_1).f2.f1))) (fun _ hk => trivial)⟩, ⟨z7_⟩, ⟨z8_⟩, ⟨z11_⟩⟩
    ·rw [if_neg c15] at H
     exact absurd H (by simp)
   ·rw [if_neg c14] at H
    have c14b0 : decide (x6_1 < (l1.length : Int)) = false := decide_eq_false c14
    clear c14
    simp only [Option.some.injEq, Prod.mk.injEq] at H
    obtain ⟨rfl, rfl⟩ := H
    have hnb152 := NB209_202.out
    have hnc152 := NB202_209.out
    obtain ⟨hcz153_0, hcz153_1, hfz153_0, hfz153_1⟩ := cs2_ BK209.out
    obtain ⟨Ao154, co154, eo154⟩ := Kd.R_slice HO_210000.out
    subst eo154
    obtain ⟨hcz155_0, hcz155_1, hfz155_0, hfz155_1⟩ := cs2_ BK202.out
    obtain ⟨Ao156, co156, eo156⟩ := Kd.R_slice HO_210001.out
    subst eo156
    go_wp2
    refine bodyPost_ret (results_cell_row rfl _ _ gb202 95 #[.slice Ao154 x210000_1.length co154, .slice Ao156 x210001_1.length co156] (0, 0) _ rfl (by (with_reducible repeat (first | refine blk_drewN ?_ _ | refine blk_drew ?_ | refine blk_alloc ?_ _)); refine blk_put (cs := #[.slice Ao154 x210000_1.length co154, .slice none 0 0]) ?_ 1 _ rfl; (with_reducible repeat (first | refine blk_drewN ?_ _ | refine blk_drew ?_ | refine blk_alloc ?_ _)); refine blk_put (cs := #[.slice none 0 0, .slice none 0 0]) ?_ 0 _ rfl; (with_reducible repeat (first | refine blk_drewN ?_ _ | refine blk_drew ?_ | refine blk_alloc ?_ _)); exact BK202.out) Try.underlying95 rfl (by kernel_rfl)) rfl ?_
    exact ⟨_, _, z4_, by (with_reducible repeat (first | apply Kd.R_alloc | apply Kd.R_drewN | apply Kd.R_drew)); exact Kd.R_mono (Kd.R_far (p := ⟨gb202, 1, none⟩) (Kd.R_far (p := ⟨gb202, 0, none⟩) (Kd.R_types HO_210000.out BK202.out (by decide)) (fun _ hk => hk.2) (.slice Ao154 x210000_1.length co154)) (fun _ hk => hk.2) (.slice Ao156 x210001_1.length co156)) (fun _ hk => trivial), by (with_reducible repeat (first | apply Kd.R_alloc | apply Kd.R_drewN | apply Kd.R_drew)); exact Kd.R_mono (Kd.R_far (p := ⟨gb202, 1, none⟩) (Kd.R_far (p := ⟨gb202, 0, none⟩) (Kd.R_types HO_210001.out BK202.out (by decide)) (fun _ hk => hk.2) (.slice Ao154 x210000_1.length co154)) (fun _ hk => hk.2) (.slice Ao156 x210001_1.length co156)) (fun _ hk => trivial), z9_⟩

/-! ### spec_Some: function 81 -/
mutual
def spec_Some.l0 : Nat → List (S168) → List Bool → List (S168) → Int → List ByteArray → List (S166) → Option (List ByteArray × (List (S166)))
 | 0, _, _, _, _, _, _ => none
 | k + 1, x1, x2, x7, x8, x219000, x219001 => if x8 < (x1.length : Int) then (spec_Some.j1 k x1 x2 x7 x8 (decide (x8 < (x2.length : Int))) x219000 x219001) else (spec_Some.j1 k x1 x2 x7 x8 false x219000 x219001)
def spec_Some.j1 : Nat → List (S168) → List Bool → List (S168) → Int → Bool → List ByteArray → List (S166) → Option (List ByteArray × (List (S166)))
 | 0, _, _, _, _, _, _, _ => none
 | k + 1, x1, x2, x7, x8, x19, x219000, x219001 => if x19 = true then (if 0 ≤ x8 then (if x8 < (x2.length : Int) then (if rdOf false x2 x8 = true then (if x8 < (x1.length : Int) then (if x7.length < 3518437208883 then (spec_Some.l0 k x1 x2 (x7 ++ [(⟨(rd_T168 x1 x8).f0, (rd_T168 x1 x8).f1, (⟨(rd_T168 x1 x8).f2.f0, (rd_T168 x1 x8).f2.f1⟩ : S166)⟩ : S168)]) (wrap64 (x8 + 1)) x219000 x219001) else (none)) else (none)) else (spec_Some.l0 k x1 x2 x7 (wrap64 (x8 + 1)) x219000 x219001)) else (none)) else (none)) else ((spec_Do.f k x219000 x219001 x7).bind fun bt228 => (some (bt228.1, bt228.2)))
end
def spec_Some.f (k : Nat) (l0_0 : List ByteArray) (l0_1 : List (S166)) (l1 : List (S168)) (l2 : List Bool) : Option (List ByteArray × (List (S166))) := spec_Some.l0 k l1 l2 (([] : List (S168))) 0 l0_0 l0_1
theorem spec_Some.mono_l : ∀ k, (∀ y0 y1 y2 y3 y4 y5, LeO (spec_Some.l0 k y0 y1 y2 y3 y4 y5) (spec_Some.l0 (k + 1) y0 y1 y2 y3 y4 y5)) ∧ (∀ y0 y1 y2 y3 y4 y5 y6, LeO (spec_Some.j1 k y0 y1 y2 y3 y4 y5 y6) (spec_Some.j1 (k + 1) y0 y1 y2 y3 y4 y5 y6))
 | 0 => ⟨fun _ _ _ _ _ _ r h => by simp [spec_Some.l0] at h, fun _ _ _ _ _ _ _ r h => by simp [spec_Some.j1] at h⟩
 | k + 1 => by
  obtain ⟨ih0, ih1⟩ := spec_Some.mono_l k
  refine ⟨?_, ?_⟩
  ·intro y0 y1 y2 y3 y4 y5
   unfold spec_Some.l0
   repeat' first
   | (with_reducible exact ih0 _ _ _ _ _ _)
   | (with_reducible exact ih1 _ _ _ _ _ _ _)
   | (with_reducible exact spec_Do.mono _ _ _ _)
   | (with_reducible exact LeO.refl _)
   | (with_reducible exact LeO.none _)
   | (with_reducible refine LeO.ite ?_ ?_)
   | (with_reducible refine LeO.bind ?_ (fun _ => ?_))
   | exact ih0 _ _ _ _ _ _
   | exact ih1 _ _ _ _ _ _ _
   | exact spec_Do.mono _ _ _ _
   | exact LeO.none _
   | refine LeO.ite ?_ ?_
   | refine LeO.bind ?_ (fun _ => ?_)
  ·intro y0 y1 y2 y3 y4 y5 y6
   unfold spec_Some.j1
   repeat' first
   | (with_reducible exact ih0 _ _ _ _ _ _)
   | (with_reducible exact ih1 _ _ _ _ _ _ _)
   | (with_reducible exact spec_Do.mono _ _ _ _)
   | (with_reducible exact LeO.refl _)
   | (with_reducible exact LeO.none _)
   | (with_reducible refine LeO.ite ?_ ?_)
   | (with_reducible refine LeO.bind ?_ (fun _ => ?_))
   | exact ih0 _ _ _ _ _ _
   | exact ih1 _ _ _ _ _ _ _
   | exact spec_Do.mono _ _ _ _
   | exact LeO.none _
   | refine LeO.ite ?_ ?_
   | refine LeO.bind ?_ (fun _ => ?_)
theorem spec_Some.mono : ∀ a0 a1 a2 a3 k, LeO (spec_Some.f k a0 a1 a2 a3) (spec_Some.f (k + 1) a0 a1 a2 a3) := by
 intro a0 a1 a2 a3 k
 obtain ⟨ih0, ih1⟩ := spec_Some.mono_l k
 unfold spec_Some.f
 repeat' first
   | (with_reducible exact ih0 _ _ _ _ _ _)
   | (with_reducible exact ih1 _ _ _ _ _ _ _)
   | (with_reducible exact spec_Do.mono _ _ _ _)
   | (with_reducible exact LeO.refl _)
   | (with_reducible exact LeO.none _)
   | (with_reducible refine LeO.ite ?_ ?_)
   | (with_reducible refine LeO.bind ?_ (fun _ => ?_))
   | exact ih0 _ _ _ _ _ _
   | exact ih1 _ _ _ _ _ _ _
   | exact spec_Do.mono _ _ _ _
   | exact LeO.none _
   | refine LeO.ite ?_ ?_
   | refine LeO.bind ?_ (fun _ => ?_)
set_option maxHeartbeats 8000000 in
set_option maxRecDepth 100000 in
theorem spec_Some.calls (k : Nat) (A0_0 : Option Addr) (c0_0 : Nat) (l0_0 : List ByteArray) (A0_1 : Option Addr) (c0_1 : Nat) (l0_1 : List (S166)) (A1 : Option Addr) (c1 : Nat) (l1 : List (S168)) (A2 : Option Addr) (c2 : Nat) (l2 : List Bool) (r1 : List ByteArray) (r2 : List (S166)) (w : World) (hr0_0 : Kd.C Kd.string w A0_0 l0_0.length l0_0) (hc0_0 : l0_0.length ≤ c0_0) (hr0_1 : Kd.C k166 w A0_1 l0_1.length l0_1) (hc0_1 : l0_1.length ≤ c0_1) (hr1 : Kd.C k168 w A1 l1.length l1) (hc1 : l1.length ≤ c1) (hr2 : Kd.C Kd.bool w A2 l2.length l2) (hc2 : l2.length ≤ c2) (h : spec_Some.f k l0_0 l0_1 l1 l2 = some (r1, r2)) :
  Calls Try.prog 81 #[.agg #[.slice A0_0 l0_0.length c0_0, .slice A0_1 l0_1.length c0_1], .slice A1 l1.length c1, .slice A2 l2.length c2] w fun e w' => ∃ v0_ v1_ : Value, e = .returned (.agg #[v0_, v1_]) ∧ Kd.R Kd.string 9 w' w.heap.size (fun _ => True) v0_ r1 ∧ Kd.R k166 166 w' w.heap.size (fun _ => True) v1_ r2 ∧ Below w.heap.size w w' := by
 have hu95 := Try.underlying95
 have hu168 := Try.underlying168
 have HR0_0 := q_ hr0_0
 have HC0_0 := q_ hc0_0
 clear hr0_0 hc0_0
 have HR0_1 := q_ hr0_1
 have HC0_1 := q_ hc0_1
 clear hr0_1 hc0_1
 have HR1 := q_ hr1
 have HC1 := q_ hc1
 clear hr1 hc1
 have HR2 := q_ hr2
 have HC2 := q_ hc2
 clear hr2 hc2
 have HB := q_ (Below.refl w.heap.size w)
 have H : (spec_Some.l0 k l1 l2 (([] : List (S168))) 0 l0_0 l0_1) = some (r1, r2) := h
 clear h
 obtain ⟨y220, hy_⟩ : ∃ y_ : List (S168), y_ = (([] : List (S168))) := ⟨_, rfl⟩
 replace H : (spec_Some.l0 k l1 l2 y220 0 l0_0 l0_1) = some (r1, r2) := z3_
 have Ny220 := q_ hy_
 clear hy_
 have H' := q_ H
 clear H
 go_enter Try.func81, Try.ntmps81
 go_wp2_with (first | ((with_reducible refine gate_dst (N := 3) rfl ?_); (try (refine gate_guard (by rfl) ?_; dsimp only)); refine box_event ?hg (N := 3) ?hd (cs := #[.slice A0_0 l0_0.length c0_0, .slice A0_1 l0_1.length c0_1]) (t := 95) ?hr ?_; (case hd => rfl); (case hg => rfl); (case hr => exact z177_); intro gb218 hg w4 hbox hb; have BK218 := q_ (hbox); have GW218 := q_ ((z141_ : w.heap.size ≤ gb218)); have GE218 := q_ ((z141_ : w.heap.size ≤ gb218)); replace HB := q_ (below_step z0_ hb); clear hb hbox hg) | ((with_reducible refine gate_dst (N := 6) rfl ?_); (try (refine gate_guard (by rfl) ?_; dsimp only)); refine box_event ?hg (N := 6) ?hd (cs := #[.slice none 0 0, .slice none 0 0]) (t := 95) ?hr ?_; (case hd => rfl); (case hg => rfl); (case hr => exact z177_); intro gb219 hg w5 hbox hb; have BK219 := q_ (hbox); have GW219 := q_ ((by rw [hg]; exact (below_size z99_) : w.heap.size ≤ gb219)); have GE219 := q_ ((by rw [hg]; exact (below_size z99_) : w.heap.size ≤ gb219)); replace HB := q_ (below_step z99_ hb); have NB218_219 := q_ ((by rw [hg]; exact Nat.ne_of_lt (blk_lt (g := gb218) (o := .cells #[.slice A0_0 l0_0.length c0_0, .slice A0_1 l0_1.length c0_1] 95 (0, 0)) z48_) : gb218 ≠ gb219)); have NB219_218 := q_ ((by rw [hg]; exact Nat.ne_of_gt (blk_lt (g := gb218) (o := .cells #[.slice A0_0 l0_0.length c0_0, .slice A0_1 l0_1.length c0_1] 95 (0, 0)) z48_) : gb219 ≠ gb218)); replace BK218 := q_ (blk_below (g := gb218) (o := .cells #[.slice A0_0 l0_0.length c0_0, .slice A0_1 l0_1.length c0_1] 95 (0, 0)) z48_ hb); clear hb hbox hg) | ((with_reducible refine gate_dst (N := 9) rfl ?_); (try (refine gate_guard (by rfl) ?_; dsimp only)); refine Kd.R_lit k168 _ 168 ?hg (N := 9) ?hd (xs := ([] : List (S168))) (inner := []) (ok := fun _ => True) (okp := fun _ => True) ?hr ?hp (fun _ hk => hk) trivial (Below.refl _ _) (Nat.le_refl _) (by simp) ?_; (case hd => rfl); (case hg => rfl); (case hr => exact z177_); (case hp => exact z193_); intro v221 w6 ho7 hb hg_ hnew_; clear hg_ hnew_; (first | rw [← Ny220.out] at ho7 | (simp only [Int.reduceToNat] at ho7; rw [← Ny220.out] at ho7)); have HO222 := q_ (Kd.R_lower ho7 (below_size z31_)); replace BK218 := q_ (blk_below (g := gb218) (o := .cells #[.slice A0_0 l0_0.length c0_0, .slice A0_1 l0_1.length c0_1] 95 (0, 0)) z48_ hb); replace BK219 := q_ (blk_below (g := gb219) (o := .cells #[.slice none 0 0, .slice none 0 0] 95 (0, 0)) z62_ hb); replace HB := q_ (below_step z31_ hb); clear hb ho7))
 go_loopg [7, 8] k (fun kq v7 v8 w' => ∃ (x7_1 : List (S168)) (x8_1 : Int), v8 = .int .i64 x8_1 ∧ Aside0 (spec_Some.l0 kq l1 l2 x7_1 x8_1 l0_0 l0_1 = some (r1, r2)) ∧ Aside0 (kq ≤ k) ∧ Aside0 (Kd.R k168 168 w' w.heap.size (fun _ => True) v7 x7_1) ∧ Aside0 (w'.heap[gb218]? = some (.cells #[(.slice A0_0 l0_0.length c0_0), (.slice A0_1 l0_1.length c0_1)] 95 (0, 0))) ∧ Aside0 (w'.heap[gb219]? = some (.cells #[(.slice none 0 0), (.slice none 0 0)] 95 (0, 0))) ∧ Aside0 (Below w.heap.size w w'))
 case atStart => exact ⟨(y220), (0), z14_, H', ⟨Nat.le_refl _⟩, ⟨by (with_reducible repeat (first | apply Kd.R_alloc | apply Kd.R_drewN | apply Kd.R_drew)); exact HO222.out⟩, ⟨z48_⟩, ⟨z62_⟩, ⟨z31_⟩⟩
 case round =>
  clear H'
  try clear c1
  try clear c2
  try clear p2
  obtain ⟨x7_1, x8_1, rfl, HA, HK1, HO_7, BK218, BK219, HB⟩ := hrel
  cases gk with
  | zero => exact absurd HA.out (by simp [spec_Some.l0])
  | succ k1 =>
   have H := HA.out
   clear HA
   simp only [spec_Some.l0] at H
   have HC8 := q_ H
   clear H
   go_upto_region 3 with (fail)
   go_cut [19] (fun v19 wc => ∃ (kq : Nat) (x19_7 : Bool), v19 = .bool x19_7 ∧ Aside0 (spec_Some.j1 kq l1 l2 x7_1 x8_1 x19_7 l0_0 l0_1 = some (r1, r2)) ∧ Aside0 (kq ≤ k1) ∧ Aside0 (Kd.R k168 168 wc w.heap.size (fun _ => True) u7 x7_1) ∧ Aside0 (wc.heap[gb218]? = some (.cells #[(.slice A0_0 l0_0.length c0_0), (.slice A0_1 l0_1.length c0_1)] 95 (0, 0))) ∧ Aside0 (wc.heap[gb219]? = some (.cells #[(.slice none 0 0), (.slice none 0 0)] 95 (0, 0))) ∧ Aside0 (Below w.heap.size w wc))
   case first =>
    have H := HC8.out
    clear HC8
    by_cases c9 : x8_1 < (l1.length : Int)
    ·rw [if_pos c9] at H
     have c9b0 : decide (x8_1 < (l1.length : Int)) = true := decide_eq_true c9
     clear c9
     (first | rw [c9b0] | rw [c9b1] | (simp only [i64_w, i32_w]; first | rw [c9b0] | rw [c9b1]) | rw [c9b2] | skip)
     have H' := q_ H
     clear H
     go_wp2
     go_meet
     case rel => exact ⟨_, (decide (x8_1 < (l2.length : Int))), z14_, H', ⟨by have := HK1.out; first | omega | exact Nat.le_refl _⟩, ⟨z89_⟩, ⟨z48_⟩, ⟨z62_⟩, ⟨z31_⟩⟩
    ·rw [if_neg c9] at H
     have c9b0 : decide (x8_1 < (l1.length : Int)) = false := decide_eq_false c9
     clear c9
     (first | rw [c9b0] | rw [c9b1] | (simp only [i64_w, i32_w]; first | rw [c9b0] | rw [c9b1]) | rw [c9b2] | skip)
     have H' := q_ H
     clear H
     go_wp2
     go_meet
     case rel => exact ⟨_, (false), z14_, H', ⟨by have := HK1.out; first | omega | exact Nat.le_refl _⟩, ⟨z89_⟩, ⟨z48_⟩, ⟨z62_⟩, ⟨z31_⟩⟩
   case rest =>
    clear HC8
    try clear c1
    try clear c2
    try clear p2
    try clear c8
    try clear c9
    try clear c9b0
    try clear c9b1
    try clear c9b2
    try clear p2
    obtain ⟨kq, x19_7, rfl, HA, HJ7, HO_7, BK218, BK219, HB⟩ := hcut
    cases kq with
    | zero => exact absurd HA.out (by simp [spec_Some.j1])
    | succ kj7 =>
     have H := HA.out
     clear HA
     simp only [spec_Some.j1] at H
     by_cases c10 : x19_7 = true
     ·subst c10
      have H1 : (if 0 ≤ x8_1 then (if x8_1 < (l2.length : Int) then (if rdOf false l2 x8_1 = true then (if x8_1 < (l1.length : Int) then (if x7_1.length < 3518437208883 then (spec_Some.l0 kj7 l1 l2 (x7_1 ++ [(⟨(rd_T168 l1 x8_1).f0, (rd_T168 l1 x8_1).f1, (⟨(rd_T168 l1 x8_1).f2.f0, (rd_T168 l1 x8_1).f2.f1⟩ : S166)⟩ : S168)]) (wrap64 (x8_1 + 1)) l0_0 l0_1) else (none)) else (none)) else (spec_Some.l0 kj7 l1 l2 x7_1 (wrap64 (x8_1 + 1)) l0_0 l0_1)) else (none)) else (none)) = some (r1, r2) := z90_
      clear H
      have H := H1
      clear H1
      by_cases c11 : 0 ≤ x8_1
      ·rw [if_pos c11] at H
       have c11b0 : decide (0 ≤ x8_1) = true := decide_eq_true c11
       clear c11
       by_cases c12 : x8_1 < (l2.length : Int)
       ·rw [if_pos c12] at H
        have c12b0 : decide (x8_1 < (l2.length : Int)) = true := decide_eq_true c12
        clear c12
        obtain ⟨bq13, hbq13⟩ : ∃ b_ : Bool, b_ = (rdOf false l2 x8_1) := ⟨_, rfl⟩
        replace H : (if bq13 = true then (if x8_1 < (l1.length : Int) then (if x7_1.length < 3518437208883 then (spec_Some.l0 kj7 l1 l2 (x7_1 ++ [(⟨(rd_T168 l1 x8_1).f0, (rd_T168 l1 x8_1).f1, (⟨(rd_T168 l1 x8_1).f2.f0, (rd_T168 l1 x8_1).f2.f1⟩ : S166)⟩ : S168)]) (wrap64 (x8_1 + 1)) l0_0 l0_1) else (none)) else (none)) else (spec_Some.l0 kj7 l1 l2 x7_1 (wrap64 (x8_1 + 1)) l0_0 l0_1)) = some (r1, r2) := by rw [← hbq13] at H; exact H
        have Nbq13 := q_ hbq13
        clear hbq13
        by_cases c14 : bq13 = true
        ·subst c14
         have H1 : (if x8_1 < (l1.length : Int) then (if x7_1.length < 3518437208883 then (spec_Some.l0 kj7 l1 l2 (x7_1 ++ [(⟨(rd_T168 l1 x8_1).f0, (rd_T168 l1 x8_1).f1, (⟨(rd_T168 l1 x8_1).f2.f0, (rd_T168 l1 x8_1).f2.f1⟩ : S166)⟩ : S168)]) (wrap64 (x8_1 + 1)) l0_0 l0_1) else (none)) else (none)) = some (r1, r2) := z90_
         clear H
         have H := H1
         clear H1
         by_cases c15 : x8_1 < (l1.length : Int)
         ·rw [if_pos c15] at H
          have c15b0 : decide (x8_1 < (l1.length : Int)) = true := decide_eq_true c15
          clear c15
          by_cases c16 : x7_1.length < 3518437208883
          ·rw [if_pos c16] at H
           have LMc16 := q_ c16
           clear c16
           obtain ⟨y225, hy_⟩ : ∃ y_ : List (S168), y_ = (x7_1 ++ [(⟨(rd_T168 l1 x8_1).f0, (rd_T168 l1 x8_1).f1, (⟨(rd_T168 l1 x8_1).f2.f0, (rd_T168 l1 x8_1).f2.f1⟩ : S166)⟩ : S168)]) := ⟨_, rfl⟩
           replace H : (spec_Some.l0 kj7 l1 l2 y225 (wrap64 (x8_1 + 1)) l0_0 l0_1) = some (r1, r2) := z3_
           have Ny225 := q_ hy_
           clear hy_
           have H' := q_ H
           clear H
           have p223 : 0 ≤ (x8_1 : Int) := of_decide_eq_true z1_
           have q223 : x8_1 < (l2.length : Int) := of_decide_eq_true z1_
           obtain ⟨ad223, e223, hx223_0⟩ := Kd.at_bool HR2.out x8_1 p223 q223
           (try rw [← Nbq13.out] at hx223_0)
           cases e223
           replace hx223_0 := up_ HB hx223_0
           replace p223 := eq_true p223
           replace q223 := eq_true q223
           have p224 : 0 ≤ (x8_1 : Int) := of_decide_eq_true z1_
           have q224 : x8_1 < (l1.length : Int) := of_decide_eq_true z1_
           obtain ⟨ad224, e224, hx224_0, hx224_1, hx224_2, hx224_3⟩ := at_T168 HR1.out x8_1 p224 q224
           cases e224
           replace hx224_0 := up_ HB hx224_0
           replace hx224_1 := up_ HB hx224_1
           replace hx224_2 := up_ HB hx224_2
           replace hx224_3 := up_ HB hx224_3
           replace p224 := eq_true p224
           replace q224 := eq_true q224
           go_wp2_with (first | ((with_reducible refine gate_builtin (b := .append) (xs := #[.tmp 26, .tmp 31]) rfl ?_); (try (refine gate_guard (by rfl) ?_; dsimp only)); at_builtin; refine Kd.R_append k168 (w0 := w) w.heap.size rfl (.tmp 26) (.tmp 31) 98 168 (.agg #[(.int .i64 0), (.string ⟨#[]⟩), (.int .i64 0), (.int .i64 0)]) 40 rfl Try.underlying98 info168 rfl (by decide) (by omega) u7 x7_1 (⟨(rd_T168 l1 x8_1).f0, (rd_T168 l1 x8_1).f1, (⟨(rd_T168 l1 x8_1).f2.f0, (rd_T168 l1 x8_1).f2.f1⟩ : S166)⟩ : S168) [.int .i64 ((rd_T168 l1 x8_1).f0), .string ((rd_T168 l1 x8_1).f1), .int .i64 ((rd_T168 l1 x8_1).f2.f0), .int .i64 ((rd_T168 l1 x8_1).f2.f1)] (fun _ => True) (fun _ => False) rfl rfl ?aP (fun _ hk => hk.elim) ?aF ?aO ?aB ?aS ?aL ?_; (case aP => exact k168_mkM _ _ _ (⟨(rd_T168 l1 x8_1).f0, (rd_T168 l1 x8_1).f1, (⟨(rd_T168 l1 x8_1).f2.f0, (rd_T168 l1 x8_1).f2.f1⟩ : S166)⟩ : S168)); (case aB => exact z31_); (case aF => exact z192_); (case aO => exact z89_); (case aS => exact (below_size z31_)); (case aL => have := LMc16.out; omega); intro v226 w17 ho hb hg hat; rw [← Ny225.out] at ho; replace BK218 := q_ (blk_grown (g := gb218) (o := .cells #[.slice A0_0 l0_0.length c0_0, .slice A0_1 l0_1.length c0_1] 95 (0, 0)) z48_ hg (Kd.R_ne HO_7.out BK218.out (by decide))); replace BK219 := q_ (blk_grown (g := gb219) (o := .cells #[.slice none 0 0, .slice none 0 0] 95 (0, 0)) z62_ hg (Kd.R_ne HO_7.out BK219.out (by decide))); replace HB := q_ (hb); have HO227 := q_ (ho); clear HO_7; clear ho hb hg hat))
           go_roundg kj7
           case measure => have := HK1.out; have := HJ7.out; omega
           case rel => exact ⟨(y225), (wrap64 (x8_1 + 1)), z14_, H', ⟨by have := HK1.out; have := HJ7.out; omega⟩, ⟨by (with_reducible repeat (first | apply Kd.R_alloc | apply Kd.R_drewN | apply Kd.R_drew)); exact HO227.out⟩, ⟨z48_⟩, ⟨z62_⟩, ⟨z31_⟩⟩
          ·rw [if_neg c16] at H
           exact absurd H (by simp)
         ·rw [if_neg c15] at H
          exact absurd H (by simp)
        ·replace c14 := Bool.eq_false_iff.mpr c14
         subst c14
         have H1 : (spec_Some.l0 kj7 l1 l2 x7_1 (wrap64 (x8_1 + 1)) l0_0 l0_1) = some (r1, r2) := by rw [if_neg (show ¬ (false = true) by decide)] at H; exact H
         clear H
         have H := H1
         clear H1
         have H' := q_ H
         clear H
         have p223 : 0 ≤ (x8_1 : Int) := of_decide_eq_true z1_
         have q223 : x8_1 < (l2.length : Int) := of_decide_eq_true z1_
         obtain ⟨ad223, e223, hx223_0⟩ := Kd.at_bool HR2.out x8_1 p223 q223
         (try rw [← Nbq13.out] at hx223_0)
         cases e223
         replace hx223_0 := up_ HB hx223_0
         replace p223 := eq_true p223
         replace q223 := eq_true q223
         go_wp2
         go_roundg kj7
         case measure => have := HK1.out; have := HJ7.out; omega
         case rel => exact ⟨(x7_1), (wrap64 (x8_1 + 1)), z14_, H', ⟨by have := HK1.out; have := HJ7.out; omega⟩, ⟨z89_⟩, ⟨z48_⟩, ⟨z62_⟩, ⟨z31_⟩⟩
       ·rw [if_neg c12] at H
        exact absurd H (by simp)
      ·rw [if_neg c11] at H
       exact absurd H (by simp)
     ·replace c10 := Bool.eq_false_iff.mpr c10
      subst c10
      have H1 : ((spec_Do.f kj7 l0_0 l0_1 x7_1).bind fun bt228 => (some (bt228.1, bt228.2))) = some (r1, r2) := by rw [if_neg (show ¬ (false = true) by decide)] at H; exact H
      clear H
      have H := H1
      clear H1
      replace H := Option.bind_eq_some_iff.mp H
      obtain ⟨⟨t228, t231⟩, A180, H⟩ := H
      replace H : (some (t228, t231)) = some (r1, r2) := H
      have A18 := q_ A180
      clear A180
      simp only [Option.some.injEq, Prod.mk.injEq] at H
      obtain ⟨rfl, rfl⟩ := H
      have hnb19 := NB218_219.out
      have hnc19 := NB219_218.out
      obtain ⟨hcz20_0, hcz20_1, hfz20_0, hfz20_1⟩ := cs2_ BK218.out
      obtain ⟨Ao21, co21, eo21⟩ := Kd.R_slice HO_7.out
      subst eo21
      go_wp2_with (first | ((with_reducible refine gate_callee (f := 72) rfl ?_); refine goesL_ (some 35) rfl rfl Try.func72 (by kernel_rfl) rfl #[.agg #[.slice A0_0 l0_0.length c0_0, .slice A0_1 l0_1.length c0_1], .slice Ao21 x7_1.length co21] rfl z2_ ?_; (with_reducible refine (spec_Do.calls kj7 _ _ l0_0 _ _ l0_1 _ _ x7_1 t228 t231 _ ?side1 ?side2 ?side3 ?side4 ?side5 ?side6 A18.out).mono ?_); (case side1 => exact z178_); (case side2 => exact HC0_0.out); (case side3 => exact z179_); (case side4 => exact HC0_1.out); (case side5 => repeat (first | exact (Kd.R_reads' HO_7.out).2.2 | (with_reducible refine Kd.C_alloc ?_ _) | (with_reducible refine Kd.C_drewN ?_ _) | (with_reducible refine Kd.C_drew ?_))); (case side6 => exact (Kd.R_reads' HO_7.out).2.1); rintro e w22 ⟨v229, v232, rfl, ho0, ho1, hb⟩; refine ⟨_, rfl, ?_⟩; replace HO_7 := q_ (Kd.R_below z89_ hb); have HO230 := q_ (Kd.R_lower ho0 (below_size z76_)); have HO233 := q_ (Kd.R_lower ho1 (below_size z76_)); replace BK219 := q_ (blk_below (g := gb219) (o := .cells #[.slice none 0 0, .slice none 0 0] 95 (0, 0)) z62_ hb); replace HB := q_ (below_step z76_ hb); (try clear hb); (try clear hb2); (try clear hk); (try clear hi); (try clear ho0); (try clear ho1); obtain ⟨Ao23, co23, eo23⟩ := Kd.R_slice HO230.out; subst eo23; obtain ⟨hcz24_0, hcz24_1, hfz24_0, hfz24_1⟩ := cs2_ BK219.out; obtain ⟨Ao25, co25, eo25⟩ := Kd.R_slice HO233.out; subst eo25))
      refine bodyPost_ret (results_cell_row rfl _ _ gb219 95 #[.slice Ao23 t228.length co23, .slice Ao25 t231.length co25] (0, 0) _ rfl (by (with_reducible repeat (first | refine blk_drewN ?_ _ | refine blk_drew ?_ | refine blk_alloc ?_ _)); refine blk_put (cs := #[.slice Ao23 t228.length co23, .slice none 0 0]) ?_ 1 _ rfl; (with_reducible repeat (first | refine blk_drewN ?_ _ | refine blk_drew ?_ | refine blk_alloc ?_ _)); refine blk_put (cs := #[.slice none 0 0, .slice none 0 0]) ?_ 0 _ rfl; (with_reducible repeat (first | refine blk_drewN ?_ _ | refine blk_drew ?_ | refine blk_alloc ?_ _)); exact BK219.out) Try.underlying95 rfl (by kernel_rfl)) rfl ?_
      exact ⟨_, _, z4_, by (with_reducible repeat (first | apply Kd.R_alloc | apply Kd.R_drewN | apply Kd.R_drew)); exact Kd.R_mono (Kd.R_far (p := ⟨gb219, 1, none⟩) (Kd.R_far (p := ⟨gb219, 0, none⟩) (Kd.R_types HO230.out BK219.out (by decide)) (fun _ hk => hk.2) (.slice Ao23 t228.length co23)) (fun _ hk => hk.2) (.slice Ao25 t231.length co25)) (fun _ hk => trivial), by (with_reducible repeat (first | apply Kd.R_alloc | apply Kd.R_drewN | apply Kd.R_drew)); exact Kd.R_mono (Kd.R_far (p := ⟨gb219, 1, none⟩) (Kd.R_far (p := ⟨gb219, 0, none⟩) (Kd.R_types HO233.out BK219.out (by decide)) (fun _ hk => hk.2) (.slice Ao23 t228.length co23)) (fun _ hk => hk.2) (.slice Ao25 t231.length co25)) (fun _ hk => trivial), z76_⟩

/-! ### laws_toBoolS: function 82 -/
def laws_toBoolS.l0 : Nat → List Bool → List Bool → Int → Option (List Bool)
 | 0, _, _, _ => none
 | k + 1, x0, x3, x4 => if x4 < (x0.length : Int) then (if 0 ≤ x4 then (if x4 < (x3.length : Int) then (laws_toBoolS.l0 k x0 (x3.set (x4 : Int).toNat (rdOf false x0 x4)) (wrap64 (x4 + 1))) else (none)) else (none)) else (some x3)
def laws_toBoolS.f (k : Nat) (l0 : List Bool) : Option (List Bool) := if 0 ≤ (l0.length : Int) then (if ((l0.length : Int) : Int).toNat ≤ 281474976710656 then (laws_toBoolS.l0 k l0 (List.replicate ((l0.length : Int) : Int).toNat false) 0) else (none)) else (none)
theorem laws_toBoolS.mono_l : ∀ k, (∀ y0 y1 y2, LeO (laws_toBoolS.l0 k y0 y1 y2) (laws_toBoolS.l0 (k + 1) y0 y1 y2))
 | 0 => fun _ _ _ r h => by simp [laws_toBoolS.l0] at h
 | k + 1 => by
  have ih0 := laws_toBoolS.mono_l k
  ·intro y0 y1 y2
   unfold laws_toBoolS.l0
   repeat' first
   | (with_reducible exact ih0 _ _ _)
   | (with_reducible exact LeO.refl _)
   | (with_reducible exact LeO.none _)
   | (with_reducible refine LeO.ite ?_ ?_)
   | (with_reducible refine LeO.bind ?_ (fun _ => ?_))
   | exact ih0 _ _ _
   | exact LeO.none _
   | refine LeO.ite ?_ ?_
   | refine LeO.bind ?_ (fun _ => ?_)
theorem laws_toBoolS.mono : ∀ a0 k, LeO (laws_toBoolS.f k a0) (laws_toBoolS.f (k + 1) a0) := by
 intro a0 k
 have ih0 := laws_toBoolS.mono_l k
 unfold laws_toBoolS.f
 repeat' first
   | (with_reducible exact ih0 _ _ _)
   | (with_reducible exact LeO.refl _)
   | (with_reducible exact LeO.none _)
   | (with_reducible refine LeO.ite ?_ ?_)
   | (with_reducible refine LeO.bind ?_ (fun _ => ?_))
   | exact ih0 _ _ _
   | exact LeO.none _
   | refine LeO.ite ?_ ?_
   | refine LeO.bind ?_ (fun _ => ?_)
set_option maxHeartbeats 8000000 in
set_option maxRecDepth 100000 in
theorem laws_toBoolS.calls (k : Nat) (A0 : Option Addr) (c0 : Nat) (l0 : List Bool) (r : List Bool) (w : World) (hr0 : Kd.C Kd.bool w A0 l0.length l0) (hc0 : l0.length ≤ c0) (h : laws_toBoolS.f k l0 = some r) :
  Calls Try.prog 82 #[.slice A0 l0.length c0] w fun e w' => ∃ v0_ : Value, e = .returned (v0_) ∧ Kd.R Kd.bool 4 w' w.heap.size (fun _ => True) v0_ r ∧ Below w.heap.size w w' := by
 have HR0 := q_ hr0
 have HC0 := q_ hc0
 clear hr0 hc0
 have HB := q_ (Below.refl w.heap.size w)
 have H : (if 0 ≤ (l0.length : Int) then (if ((l0.length : Int) : Int).toNat ≤ 281474976710656 then (laws_toBoolS.l0 k l0 (List.replicate ((l0.length : Int) : Int).toNat false) 0) else (none)) else (none)) = some r := h
 clear h
 by_cases c2 : 0 ≤ (l0.length : Int)
 ·rw [if_pos c2] at H
  have c2b0 := eq_true c2
  have c2b1 : decide (0 ≤ (l0.length : Int)) = true := decide_eq_true c2
  clear c2
  by_cases c3 : ((l0.length : Int) : Int).toNat ≤ 281474976710656
  ·rw [if_pos c3] at H
   have c3b0 := eq_true c3
   have c3b1 : decide (((l0.length : Int) : Int).toNat ≤ 281474976710656) = true := decide_eq_true c3
   clear c3
   obtain ⟨y234, hy_⟩ : ∃ y_ : List Bool, y_ = (List.replicate ((l0.length : Int) : Int).toNat false) := ⟨_, rfl⟩
   replace H : (laws_toBoolS.l0 k l0 y234 0) = some r := z3_
   have Ny234 := q_ hy_
   clear hy_
   have H' := q_ H
   clear H
   go_enter Try.func82, Try.ntmps82
   go_wp2_with (first | ((with_reducible refine gate_dst (N := 7) rfl ?_); refine Kd.R_make Kd.bool _ 4 rfl (N := 7) rfl 105 _ _ rfl (l0.length : Int) rfl rfl Try.underlying105 (.bool false) 1 info4 rfl (by decide) (by omega) false (ok := fun _ => True) (okp := fun _ => True) rfl (fun _ hk => hk) trivial (of_decide_eq_true z1_) (Nat.le_trans (Nat.mul_le_mul_right _ (of_decide_eq_true z1_ : (l0.length : Int).toNat ≤ 281474976710656)) (by omega)) (Below.refl _ _) (Nat.le_refl _) ?_; intro v235 w4 ho5 hb hg_ hnew_; clear hg_ hnew_; (first | rw [← Ny234.out] at ho5 | (simp only [Int.reduceToNat] at ho5; rw [← Ny234.out] at ho5)); have HO236 := q_ (Kd.R_lower ho5 (below_size z0_)); replace HB := q_ (below_step z0_ hb); clear hb ho5))
   go_loopg [4] k (fun kq v4 w' => ∃ (x3_1 : List Bool) (x4_1 : Int), v4 = .int .i64 x4_1 ∧ Aside0 (laws_toBoolS.l0 kq l0 x3_1 x4_1 = some r) ∧ Aside0 (kq ≤ k) ∧ Aside0 (Kd.R Kd.bool 4 w' w.heap.size (fun _ => True) v235 x3_1) ∧ Aside0 (Below w.heap.size w w'))
   case atStart => exact ⟨(y234), (0), z14_, H', ⟨Nat.le_refl _⟩, ⟨by (with_reducible repeat (first | apply Kd.R_alloc | apply Kd.R_drewN | apply Kd.R_drew)); exact HO236.out⟩, ⟨z0_⟩⟩
   case round =>
    clear H'
    try clear c2
    try clear c2b0
    try clear c2b1
    try clear p2
    try clear c3
    try clear c3b0
    try clear c3b1
    obtain ⟨x3_1, x4_1, rfl, HA, HK1, HO_3, HB⟩ := hrel
    cases gk with
    | zero => exact absurd HA.out (by simp [laws_toBoolS.l0])
    | succ k1 =>
     have H := HA.out
     clear HA
     simp only [laws_toBoolS.l0] at H
     by_cases c6 : x4_1 < (l0.length : Int)
     ·rw [if_pos c6] at H
      have c6b0 : decide (x4_1 < (l0.length : Int)) = true := decide_eq_true c6
      clear c6
      by_cases c7 : 0 ≤ x4_1
      ·rw [if_pos c7] at H
       have c7b0 : decide (0 ≤ x4_1) = true := decide_eq_true c7
       clear c7
       by_cases c8 : x4_1 < (x3_1.length : Int)
       ·rw [if_pos c8] at H
        have c8b0 : decide (x4_1 < (x3_1.length : Int)) = true := decide_eq_true c8
        clear c8
        obtain ⟨y238, hy_⟩ : ∃ y_ : List Bool, y_ = (x3_1.set (x4_1 : Int).toNat (rdOf false l0 x4_1)) := ⟨_, rfl⟩
        replace H : (laws_toBoolS.l0 k1 l0 y238 (wrap64 (x4_1 + 1))) = some r := z3_
        have Ny238 := q_ hy_
        clear hy_
        have H' := q_ H
        clear H
        have p237 : 0 ≤ (x4_1 : Int) := of_decide_eq_true z1_
        have q237 : x4_1 < (l0.length : Int) := of_decide_eq_true z1_
        obtain ⟨ad237, e237, hx237_0⟩ := Kd.at_bool HR0.out x4_1 p237 q237
        cases e237
        replace hx237_0 := up_ HB hx237_0
        replace p237 := eq_true p237
        replace q237 := eq_true q237
        have p9 : 0 ≤ (x4_1 : Int) := of_decide_eq_true z1_
        have q9 : (x4_1 : Int) < ((x3_1.length : Int) : Int) := of_decide_eq_true z1_
        obtain ⟨go9, co9, eo9, gb9, gl9, cl9, HG9⟩ := Kd.R_form HO_3.out (by omega)
        (first | cases eo9 | (injection eo9 with ea_ en_ ec_; (first | subst ea_ | (injection ea_ with ea_; subst ea_)); subst ec_; clear en_))
        have GB9 := q_ gb9
        have GG9 := q_ HG9
        clear gb9 gl9 HG9
        obtain ⟨hx9_0, hf9_0⟩ := Kd.R_celln false HO_3.out (x4_1 : Int) p9 q9
        replace p9 := eq_true p9
        replace q9 := eq_true q9
        have HP10 := Kd.R_putg HO_3.out (x4_1 : Int) (rdOf false l0 x4_1)
        go_wp2_with (first | ((with_reducible refine gate_store (t := 4) (p := 20) rfl ?_); refine store_event (t := 4) (p := 20) (v := ?vo_w11) (w1 := (wr.setCell ⟨go9, (x4_1 : Int).toNat, none⟩ (.bool (rdOf false l0 x4_1)))) ?hg ?ho ?hn ?hr ?_; (case ho => rfl); (case hg => rfl); (case hn => rfl); (case hr => exact z177_); intro w11 hw; have hg : wr.grownBy w11 (some go9) := (by rw [hw]; exact HP10.2); have hp_ : Kd.R Kd.bool 4 w11 w.heap.size (fun _ => True) (.slice (some ⟨go9, 0, none⟩) x3_1.length co9) y238 := (by rw [hw, Ny238.out]; exact HP10.1); clear HP10; replace HO_3 := q_ (hp_); replace HB := q_ ((by rw [hw]; exact below_set (HB.out) GB9.out : Below w.heap.size w w11)); clear hg hw hp_))
        go_roundg k1
        case measure => have := HK1.out; omega
        case rel => exact ⟨(y238), (wrap64 (x4_1 + 1)), z14_, H', ⟨z70_⟩, ⟨z47_⟩, ⟨z0_⟩⟩
       ·rw [if_neg c8] at H
        exact absurd H (by simp)
      ·rw [if_neg c7] at H
       exact absurd H (by simp)
     ·rw [if_neg c6] at H
      have c6b0 : decide (x4_1 < (l0.length : Int)) = false := decide_eq_false c6
      clear c6
      obtain rfl := Option.some.inj H
      go_wp2
      go_ret
      exact ⟨_, z4_, z47_, z0_⟩
  ·rw [if_neg c3] at H
   exact absurd H (by simp)
 ·rw [if_neg c2] at H
  exact absurd H (by simp)

end Go.Proofs.Ytphlmbhjeoljoaa.PFnExactSome
