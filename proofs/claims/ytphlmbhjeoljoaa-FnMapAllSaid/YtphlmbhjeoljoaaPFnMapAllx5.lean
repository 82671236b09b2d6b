-- Written by a program of this session, which goes by the kit's print. Not trusted: Lean checks it.
import Derived.Test.YtphlmbhjeoljoaaPFnMapAllx0
import Derived.Test.YtphlmbhjeoljoaaPFnMapAllx3
import Derived.Test.YtphlmbhjeoljoaaPFnMapAllx4
namespace Go.Proofs.Ytphlmbhjeoljoaa.PFnMapAll
open Go.RowKit Go.Proofs.YtphlmbhjeoljoaaW.PrintWords Go.Proofs.YtphlmbhjeoljoaaW.PrintLast Go.Proofs.YtphlmbhjeoljoaaW.PrintMore
attribute [local go_sem] max2_int min2_int max_two min_two max_three min_three max_four min_four   -- for this text's walks alone
set_option linter.unusedVariables false
set_option linter.unusedSimpArgs false

/-! ### spec_MapDo: function 48 -/
def spec_MapDo.j0 : Nat → List (S147) → Bool → Int → Int → Int → Option ((List (S147)))
 | 0, _, _, _, _, _ => none
 | k + 1, x0, x14, x154000, x154001, x154002 => if x14 = true then ((some (([] : List (S147)) : List (S147))).bind fun y156 => (if y156.length + x0.length < 8796093022208 then (some (y156 ++ x0)) else (none))) else ((spec_MapGet.f k x0 x154001).bind fun bt162 => (if x154000 = 1 then ((spec_l1Put.f k x0 x154001 x154002).bind fun t164 => (some t164)) else (if x154000 = 2 then ((spec_l1Without.f k x0 x154001).bind fun t167 => (some t167)) else (if x154000 = 3 then ((spec_l1Clamp.f (wrap64 (bt162.1 + x154002))).bind fun t170 => ((spec_l1Put.f k x0 x154001 t170).bind fun t171 => (some t171))) else ((some (([] : List (S147)) : List (S147))).bind fun y174 => (if y174.length + x0.length < 8796093022208 then (some (y174 ++ x0)) else (none)))))))
def spec_MapDo.f (k : Nat) (l0 : List (S147)) (a1_0 : Int) (a1_1 : Int) (a1_2 : Int) : Option ((List (S147))) := (spec_MapOk.f k l0).bind fun t154 => (if t154 = true then ((spec_MsgOk.f a1_0 a1_1 a1_2).bind fun t155 => (spec_MapDo.j0 k l0 (!t155) a1_0 a1_1 a1_2)) else (spec_MapDo.j0 k l0 true a1_0 a1_1 a1_2))
theorem spec_MapDo.mono_l : ∀ k, (∀ y0 y1 y2 y3 y4, LeO (spec_MapDo.j0 k y0 y1 y2 y3 y4) (spec_MapDo.j0 (k + 1) y0 y1 y2 y3 y4))
 | 0 => fun _ _ _ _ _ r h => by simp [spec_MapDo.j0] at h
 | k + 1 => by
  have ih0 := spec_MapDo.mono_l k
  ·intro y0 y1 y2 y3 y4
   unfold spec_MapDo.j0
   repeat' first
   | (with_reducible exact ih0 _ _ _ _ _)
   | (with_reducible exact spec_MapGet.mono _ _ _)
   | (with_reducible exact spec_MapOk.mono _ _)
   | (with_reducible exact spec_l1Put.mono _ _ _ _)
   | (with_reducible exact spec_l1Without.mono _ _ _)
   | (with_reducible exact LeO.refl _)
   | (with_reducible exact LeO.none _)
   | (with_reducible refine LeO.ite ?_ ?_)
   | (with_reducible refine LeO.bind ?_ (fun _ => ?_))
   | exact ih0 _ _ _ _ _
   | exact spec_MapGet.mono _ _ _
   | exact spec_MapOk.mono _ _
   | exact spec_l1Put.mono _ _ _ _
   | exact spec_l1Without.mono _ _ _
   | exact LeO.none _
   | refine LeO.ite ?_ ?_
   | refine LeO.bind ?_ (fun _ => ?_)
theorem spec_MapDo.mono : ∀ a0 a1 a2 a3 k, LeO (spec_MapDo.f k a0 a1 a2 a3) (spec_MapDo.f (k + 1) a0 a1 a2 a3) := by
 intro a0 a1 a2 a3 k
 have ih0 := spec_MapDo.mono_l k
 unfold spec_MapDo.f
 repeat' first
   | (with_reducible exact ih0 _ _ _ _ _)
   | (with_reducible exact spec_MapGet.mono _ _ _)
   | (with_reducible exact spec_MapOk.mono _ _)
   | (with_reducible exact spec_l1Put.mono _ _ _ _)
   | (with_reducible exact spec_l1Without.mono _ _ _)
   | (with_reducible exact LeO.refl _)
   | (with_reducible exact LeO.none _)
   | (with_reducible refine LeO.ite ?_ ?_)
   | (with_reducible refine LeO.bind ?_ (fun _ => ?_))
   | exact ih0 _ _ _ _ _
   | exact spec_MapGet.mono _ _ _
   | exact spec_MapOk.mono _ _
   | exact spec_l1Put.mono _ _ _ _
   | exact spec_l1Without.mono _ _ _
   | exact LeO.none _
   | refine LeO.ite ?_ ?_
   | refine LeO.bind ?_ (fun _ => ?_)
def spec_MapDo.T10 : Bool × List (List Nat × List Nat) := (true, [([], []), ([], []), ([1], [1]), ([], []), ([], []), ([4], [4]), ([3, 5], [3, 5]), ([6], [6]), ([0, 2, 7, 7], [0, 2, 7]), ([8, 8, 0, 1, 2, 3, 4, 5, 6, 7, 8], [8])])
def spec_MapDo.B10 : List Nat := [0, 0, 2, 0, 0, 16, 56, 120, 255, 511]
theorem spec_MapDo.tab10 : rtab .any (opsOf Try.f48 10) = spec_MapDo.T10 := by kernel_rfl
theorem spec_MapDo.bits10 : waitsOk spec_MapDo.T10.2 spec_MapDo.B10 = true := by kernel_rfl
set_option maxHeartbeats 8000000 in
set_option maxRecDepth 100000 in
theorem spec_MapDo.calls (k : Nat) (A0 : Option Addr) (c0 : Nat) (l0 : List (S147)) (a1_0 : Int) (a1_1 : Int) (a1_2 : Int) (r : List (S147)) (w : World) (hr0 : Kd.C k147 w A0 l0.length l0) (hc0 : l0.length ≤ c0) (h : spec_MapDo.f k l0 a1_0 a1_1 a1_2 = some r) :
  Calls Try.prog 48 #[.slice A0 l0.length c0, .agg #[.int .i64 a1_0, .int .i64 a1_1, .int .i64 a1_2]] w fun e w' => ∃ v0_ : Value, e = .returned (v0_) ∧ Kd.R k147 147 w' w.heap.size (fun _ => True) v0_ r ∧ Below w.heap.size w w' := by
 have hu67 := Try.underlying67
 have HR0 := q_ hr0
 have HC0 := q_ hc0
 clear hr0 hc0
 have HB := q_ (Below.refl w.heap.size w)
 have H : ((spec_MapOk.f k l0).bind fun t154 => (if t154 = true then ((spec_MsgOk.f a1_0 a1_1 a1_2).bind fun t155 => (spec_MapDo.j0 k l0 (!t155) a1_0 a1_1 a1_2)) else (spec_MapDo.j0 k l0 true a1_0 a1_1 a1_2))) = some r := h
 clear h
 have HC3 := q_ H
 clear H
 go_enter Try.func48, Try.ntmps48
 go_upto_region 1 with (first | ((with_reducible refine gate_dst (N := 3) rfl ?_); refine box_event ?hg (N := 3) ?hd (cs := #[.int .i64 a1_0, .int .i64 a1_1, .int .i64 a1_2]) (t := 67) ?hr ?_; (case hd => rfl); (case hg => rfl); (case hr => exact z108_); intro gb153 hg w4 hbox hb; have n0_ := q_ (below_step z0_ hb); have n1_ := q_ (hbox); have n2_ := q_ ((z91_ : w.heap.size ≤ gb153)); have n3_ := q_ ((z91_ : w.heap.size ≤ gb153)); clear HB; have HB := n0_; have BK153 := n1_; have GW153 := n2_; have GE153 := n3_; clear n0_ n1_ n2_ n3_; clear hb hbox hg))
 (try simp only [Act.put, List.setIfInBounds_toArray, List.set_cons_zero, List.set_cons_succ])
 go_cut [14] (fun v14 wc => ∃ (kq : Nat) (x14_2 : Bool), v14 = .bool x14_2 ∧ Aside0 (spec_MapDo.j0 kq l0 x14_2 a1_0 a1_1 a1_2 = some r) ∧ Aside0 (kq ≤ k) ∧ Aside0 (wc.heap[gb153]? = some (.cells #[.int .i64 a1_0, .int .i64 a1_1, .int .i64 a1_2] 67 (0, 0))) ∧ Aside0 (Below w.heap.size w wc))
 case first =>
  have H := HC3.out
  clear HC3
  replace H := Option.bind_eq_some_iff.mp H
  obtain ⟨t154, A50, H⟩ := H
  replace H : (if t154 = true then ((spec_MsgOk.f a1_0 a1_1 a1_2).bind fun t155 => (spec_MapDo.j0 k l0 (!t155) a1_0 a1_1 a1_2)) else (spec_MapDo.j0 k l0 true a1_0 a1_1 a1_2)) = some r := H
  have A5 := q_ A50
  clear A50
  by_cases c6 : t154 = true
  ·subst c6
   have H1 : ((spec_MsgOk.f a1_0 a1_1 a1_2).bind fun t155 => (spec_MapDo.j0 k l0 (!t155) a1_0 a1_1 a1_2)) = some r := z51_
   clear H
   have H := H1
   clear H1
   replace H := Option.bind_eq_some_iff.mp H
   obtain ⟨t155, A70, H⟩ := H
   replace H : (spec_MapDo.j0 k l0 (!t155) a1_0 a1_1 a1_2) = some r := H
   have A7 := q_ A70
   clear A70
   have H' := q_ H
   clear H
   go_wp2_with (first | ((with_reducible refine gate_callee (f := 58) rfl ?_); refine goesL_ (some 8) rfl rfl Try.func58 (by kernel_rfl) rfl #[.slice A0 l0.length c0] rfl z1_ ?_; (with_reducible refine (spec_MapOk.calls k _ _ l0 true _ ?side1 ?side2 A5.out).mono ?_); (case side1 => exact z109_); (case side2 => exact HC0.out); rintro e w8 ⟨rfl, hb⟩; refine ⟨_, rfl, ?_⟩; have n0_ := q_ (blk_below (g := gb153) (o := .cells #[.int .i64 a1_0, .int .i64 a1_1, .int .i64 a1_2] 67 (0, 0)) z45_ hb); have n1_ := q_ (below_step z22_ hb); clear BK153; clear HB; have BK153 := n0_; have HB := n1_; clear n0_ n1_; (try clear hb); (try clear hb2); (try clear hk); (try clear hi); obtain ⟨hcz9_0, hcz9_1, hcz9_2, hfz9_0, hfz9_1, hfz9_2⟩ := cs3_ BK153.out) | (go_at_call 60; (with_reducible refine (spec_MsgOk.calls a1_0 a1_1 a1_2 t155 _ A7.out).mono ?_); rintro e w10 ⟨rfl, hb⟩; have n0_ := q_ (blk_below (g := gb153) (o := .cells #[.int .i64 a1_0, .int .i64 a1_1, .int .i64 a1_2] 67 (0, 0)) z45_ hb); have n1_ := q_ (below_step z22_ hb); clear BK153; clear HB; have BK153 := n0_; have HB := n1_; clear n0_ n1_; (try clear hb); (try clear hb2); (try clear hk); (try clear hi)))
   go_meet
   case rel => exact ⟨_, (!t155), z7_, H', ⟨z74_⟩, ⟨z45_⟩, ⟨z22_⟩⟩
  ·replace c6 := Bool.eq_false_iff.mpr c6
   subst c6
   have H1 : (spec_MapDo.j0 k l0 true a1_0 a1_1 a1_2) = some r := by rw [if_neg (show ¬ (false = true) by decide)] at H; exact H
   clear H
   have H := H1
   clear H1
   have H' := q_ H
   clear H
   go_wp2_with (first | ((with_reducible refine gate_callee (f := 58) rfl ?_); refine goesL_ (some 8) rfl rfl Try.func58 (by kernel_rfl) rfl #[.slice A0 l0.length c0] rfl z1_ ?_; (with_reducible refine (spec_MapOk.calls k _ _ l0 false _ ?side1 ?side2 A5.out).mono ?_); (case side1 => exact z109_); (case side2 => exact HC0.out); rintro e w11 ⟨rfl, hb⟩; refine ⟨_, rfl, ?_⟩; have n0_ := q_ (blk_below (g := gb153) (o := .cells #[.int .i64 a1_0, .int .i64 a1_1, .int .i64 a1_2] 67 (0, 0)) z45_ hb); have n1_ := q_ (below_step z22_ hb); clear BK153; clear HB; have BK153 := n0_; have HB := n1_; clear n0_ n1_; (try clear hb); (try clear hb2); (try clear hk); (try clear hi)))
   go_meet
   case rel => exact ⟨_, (true), z7_, H', ⟨z74_⟩, ⟨z45_⟩, ⟨z22_⟩⟩
 case rest =>
  clear HC3
  try clear p2
  try clear c4
  try clear c5
  try clear c6
  try clear hcz9_0
  try clear hcz9_1
  try clear hcz9_2
  try clear hfz9_0
  try clear hfz9_1
  try clear hfz9_2
  obtain ⟨kq, x14_2, rfl, HA, HJ2, BK153, HB⟩ := hcut
  cases kq with
  | zero => exact absurd HA.out (by simp [spec_MapDo.j0])
  | succ kj2 =>
   have H := HA.out
   clear HA
   simp only [spec_MapDo.j0] at H
   by_cases c12 : x14_2 = true
   ·subst c12
    have H1 : ((some (([] : List (S147)) : List (S147))).bind fun y156 => (if y156.length + l0.length < 8796093022208 then (some (y156 ++ l0)) else (none))) = some r := z51_
    clear H
    have H := H1
    clear H1
    obtain ⟨y156, hy156⟩ : ∃ y_ : List (S147), y_ = (([] : List (S147))) := ⟨_, rfl⟩
    replace H : (if y156.length + l0.length < 8796093022208 then (some (y156 ++ l0)) else (none)) = some r := by first | (rw [hy156]; with_reducible exact H) | (have H2_ := (Option.bind_some _ _).symm.trans H; rw [hy156]; with_reducible exact H2_) | (have H2_ := (Option.bind_some _ _).symm.trans H; with_reducible exact H2_) | with_reducible exact H | (rw [hy156]; exact H) | exact H
    have Ny156 := q_ hy156
    clear hy156
    by_cases c13 : y156.length + l0.length < 8796093022208
    ·rw [if_pos c13] at H
     have LMc13 := q_ c13
     clear c13
     obtain ⟨y159, hy159⟩ : ∃ y_ : List (S147), y_ = (y156 ++ l0) := ⟨_, rfl⟩
     replace H : (some y159) = some r := by first | (rw [hy159]; with_reducible exact H) | (have H2_ := (Option.bind_some _ _).symm.trans H; rw [hy159]; with_reducible exact H2_) | (have H2_ := (Option.bind_some _ _).symm.trans H; with_reducible exact H2_) | with_reducible exact H | (rw [hy159]; exact H) | exact H
     have Ny159 := q_ hy159
     clear hy159
     obtain rfl := Option.some.inj H
     go_wp2_with (first | ((with_reducible refine gate_dst (N := 15) rfl ?_); refine Kd.R_lit k147 _ 147 ?hg (N := 15) ?hd (xs := ([] : List (S147))) (inner := []) (ok := fun _ => True) (okp := fun _ => True) ?hr ?hp (fun _ hk => hk) trivial (Below.refl _ _) (Nat.le_refl _) (by simp) ?_; (case hd => rfl); (case hg => rfl); (case hr => exact z108_); (case hp => exact z140_); intro v157 w14 ho15 hb hg_ hnew_; clear hg_ hnew_; (first | rw [← Ny156.out] at ho15 | (simp only [Int.reduceToNat] at ho15; rw [← Ny156.out] at ho15)); have n0_ := q_ (Kd.R_lower ho15 (below_size z0_)); have n1_ := q_ (below_step z0_ hb); clear HB; have HO158 := n0_; have HB := n1_; clear n0_ n1_; clear hb ho15) | ((with_reducible refine gate_builtin (b := .append) (xs := #[.tmp 15, .tmp 16]) rfl ?_); at_builtin; refine Kd.R_append_rows k147 (w0 := w) w.heap.size rfl (.tmp 15) (.tmp 16) 42 147 (.agg #[(.int .i64 0), (.int .i64 0)]) 16 rfl Try.underlying42 info147 rfl (by decide) (by omega) v157 y156 l0 _ _ _ (fun _ => True) (fun _ => False) rfl rfl ?aO ?aR (fun _ _ h => h) (fun _ h => h.elim) ?aF ?aB ?aS ?aL ?_; (case aR => exact z109_); (case aB => exact z0_); (case aF => exact z134_); (case aO => exact (by (with_reducible repeat (first | apply Kd.R_alloc | apply Kd.R_drewN | apply Kd.R_drew)); exact HO158.out)); (case aS => exact z138_); (case aL => have := LMc13.out; omega); intro v160 w16 ho hb hg hat; rw [← Ny159.out] at ho; have n0_ := q_ (hb); have n1_ := q_ (ho); clear HB; clear HO158; have HB := n0_; have HO161 := n1_; clear n0_ n1_; clear ho hb hg hat))
     go_ret
     exact ⟨_, z4_, by (with_reducible repeat (first | apply Kd.R_alloc | apply Kd.R_drewN | apply Kd.R_drew)); exact HO161.out, z0_⟩
    ·rw [if_neg c13] at H
     exact absurd H (by simp)
   ·replace c12 := Bool.eq_false_iff.mpr c12
    subst c12
    have H1 : ((spec_MapGet.f kj2 l0 a1_1).bind fun bt162 => (if a1_0 = 1 then ((spec_l1Put.f kj2 l0 a1_1 a1_2).bind fun t164 => (some t164)) else (if a1_0 = 2 then ((spec_l1Without.f kj2 l0 a1_1).bind fun t167 => (some t167)) else (if a1_0 = 3 then ((spec_l1Clamp.f (wrap64 (bt162.1 + a1_2))).bind fun t170 => ((spec_l1Put.f kj2 l0 a1_1 t170).bind fun t171 => (some t171))) else ((some (([] : List (S147)) : List (S147))).bind fun y174 => (if y174.length + l0.length < 8796093022208 then (some (y174 ++ l0)) else (none))))))) = some r := by rw [if_neg (show ¬ (false = true) by decide)] at H; exact H
    clear H
    have H := H1
    clear H1
    replace H := Option.bind_eq_some_iff.mp H
    obtain ⟨⟨t162, t163⟩, A170, H⟩ := H
    replace H : (if a1_0 = 1 then ((spec_l1Put.f kj2 l0 a1_1 a1_2).bind fun t164 => (some t164)) else (if a1_0 = 2 then ((spec_l1Without.f kj2 l0 a1_1).bind fun t167 => (some t167)) else (if a1_0 = 3 then ((spec_l1Clamp.f (wrap64 (t162 + a1_2))).bind fun t170 => ((spec_l1Put.f kj2 l0 a1_1 t170).bind fun t171 => (some t171))) else ((some (([] : List (S147)) : List (S147))).bind fun y174 => (if y174.length + l0.length < 8796093022208 then (some (y174 ++ l0)) else (none)))))) = some r := H
    have A17 := q_ A170
    clear A170
    by_cases c18 : a1_0 = 1
    ·rw [if_pos c18] at H
     have c18b0 : (a1_0 == 1) = true := beq_iff_eq.mpr c18
     have c18b1 : (a1_0 != 1) = false := bne_eq_false_iff_eq.mpr c18
     clear c18
     replace H := Option.bind_eq_some_iff.mp H
     obtain ⟨t164, A190, H⟩ := H
     replace H : (some t164) = some r := H
     have A19 := q_ A190
     clear A190
     obtain rfl := Option.some.inj H
     obtain ⟨hcz20_0, hcz20_1, hcz20_2, hfz20_0, hfz20_1, hfz20_2⟩ := cs3_ BK153.out
     go_wp2_with (first | ((with_reducible refine gate_callee (f := 67) rfl ?_); refine goesL_ (some 22) rfl rfl Try.func67 (by kernel_rfl) rfl #[.slice A0 l0.length c0, .int .i64 a1_1] rfl z1_ ?_; (with_reducible refine (spec_MapGet.calls kj2 _ _ l0 a1_1 t162 t163 _ ?side1 ?side2 A17.out).mono ?_); (case side1 => exact z109_); (case side2 => exact HC0.out); rintro e w' ⟨rfl, ⟨nd, rfl⟩⟩; refine ⟨_, rfl, ?_⟩) | ((with_reducible refine gate_callee (f := 127) rfl ?_); refine goesL_ (some 34) rfl rfl Try.func127 (by kernel_rfl) rfl #[.slice A0 l0.length c0, .int .i64 a1_1, .int .i64 a1_2] rfl z1_ ?_; (with_reducible refine (spec_l1Put.calls kj2 _ _ l0 a1_1 a1_2 t164 _ ?side1 ?side2 A19.out).mono ?_); (case side1 => exact z115_); (case side2 => exact HC0.out); rintro e w21 ⟨v165, rfl, ho0, hb⟩; refine ⟨_, rfl, ?_⟩; have n0_ := q_ (Kd.R_lower ho0 (below_size z0_)); have n1_ := q_ (below_step z0_ hb); clear HB; have HO166 := n0_; have HB := n1_; clear n0_ n1_; (try clear hb); (try clear hb2); (try clear hk); (try clear hi); (try clear ho0)))
     go_ret
     exact ⟨_, z4_, by (with_reducible repeat (first | apply Kd.R_alloc | apply Kd.R_drewN | apply Kd.R_drew)); exact HO166.out, z0_⟩
    ·rw [if_neg c18] at H
     have c18b0 : (a1_0 == 1) = false := beq_eq_false_iff_ne.mpr c18
     have c18b1 : (a1_0 != 1) = true := bne_iff_ne.mpr c18
     by_cases c22 : a1_0 = 2
     ·rw [if_pos c22] at H
      have c22b0 : (a1_0 == 2) = true := beq_iff_eq.mpr c22
      have c22b1 : (a1_0 != 2) = false := bne_eq_false_iff_eq.mpr c22
      clear c22
      replace H := Option.bind_eq_some_iff.mp H
      obtain ⟨t167, A230, H⟩ := H
      replace H : (some t167) = some r := H
      have A23 := q_ A230
      clear A230
      obtain rfl := Option.some.inj H
      obtain ⟨hcz24_0, hcz24_1, hcz24_2, hfz24_0, hfz24_1, hfz24_2⟩ := cs3_ BK153.out
      go_wp2_with (first | ((with_reducible refine gate_callee (f := 67) rfl ?_); refine goesL_ (some 22) rfl rfl Try.func67 (by kernel_rfl) rfl #[.slice A0 l0.length c0, .int .i64 a1_1] rfl z1_ ?_; (with_reducible refine (spec_MapGet.calls kj2 _ _ l0 a1_1 t162 t163 _ ?side1 ?side2 A17.out).mono ?_); (case side1 => exact z109_); (case side2 => exact HC0.out); rintro e w' ⟨rfl, ⟨nd, rfl⟩⟩; refine ⟨_, rfl, ?_⟩) | ((with_reducible refine gate_callee (f := 128) rfl ?_); refine goesL_ (some 40) rfl rfl Try.func128 (by kernel_rfl) rfl #[.slice A0 l0.length c0, .int .i64 a1_1] rfl z1_ ?_; (with_reducible refine (spec_l1Without.calls kj2 _ _ l0 a1_1 t167 _ ?side1 ?side2 A23.out).mono ?_); (case side1 => exact z115_); (case side2 => exact HC0.out); rintro e w25 ⟨v168, rfl, ho0, hb⟩; refine ⟨_, rfl, ?_⟩; have n0_ := q_ (Kd.R_lower ho0 (below_size z0_)); have n1_ := q_ (below_step z0_ hb); clear HB; have HO169 := n0_; have HB := n1_; clear n0_ n1_; (try clear hb); (try clear hb2); (try clear hk); (try clear hi); (try clear ho0)))
      go_ret
      exact ⟨_, z4_, by (with_reducible repeat (first | apply Kd.R_alloc | apply Kd.R_drewN | apply Kd.R_drew)); exact HO169.out, z0_⟩
     ·rw [if_neg c22] at H
      have c22b0 : (a1_0 == 2) = false := beq_eq_false_iff_ne.mpr c22
      have c22b1 : (a1_0 != 2) = true := bne_iff_ne.mpr c22
      by_cases c26 : a1_0 = 3
      ·rw [if_pos c26] at H
       have c26b0 : (a1_0 == 3) = true := beq_iff_eq.mpr c26
       have c26b1 : (a1_0 != 3) = false := bne_eq_false_iff_eq.mpr c26
       clear c26
       replace H := Option.bind_eq_some_iff.mp H
       obtain ⟨t170, A270, H⟩ := H
       replace H : ((spec_l1Put.f kj2 l0 a1_1 t170).bind fun t171 => (some t171)) = some r := H
       have A27 := q_ A270
       clear A270
       replace H := Option.bind_eq_some_iff.mp H
       obtain ⟨t171, A280, H⟩ := H
       replace H : (some t171) = some r := H
       have A28 := q_ A280
       clear A280
       obtain rfl := Option.some.inj H
       obtain ⟨hcz29_0, hcz29_1, hcz29_2, hfz29_0, hfz29_1, hfz29_2⟩ := cs3_ BK153.out
       try go_wp2_with (first | ((with_reducible refine gate_callee (f := 67) rfl ?_); refine goesL_ (some 22) rfl rfl Try.func67 (by kernel_rfl) rfl #[.slice A0 l0.length c0, .int .i64 a1_1] rfl z1_ ?_; (with_reducible refine (spec_MapGet.calls kj2 _ _ l0 a1_1 t162 t163 _ ?side1 ?side2 A17.out).mono ?_); (case side1 => exact z109_); (case side2 => exact HC0.out); rintro e w' ⟨rfl, ⟨nd, rfl⟩⟩; refine ⟨_, rfl, ?_⟩))
       (try (rw [drewN_self wc]; generalize hq_ : World.drewN wc _ = wc; have n0_ : Aside0 (wc.heap[gb153]? = some (.cells #[.int .i64 a1_0, .int .i64 a1_1, .int .i64 a1_2] 67 (0, 0))) := ⟨by rw [← hq_]; exact z45_⟩; have n1_ : Aside0 (Below w.heap.size w wc) := ⟨by rw [← hq_]; exact z22_⟩; clear BK153 HB hq_; have BK153 := n0_; have HB := n1_; clear n0_ n1_))
       have n0_ := q_ (blk_drew BK153.out)
       have n1_ := q_ (below_drew1 HB.out)
       clear BK153
       clear HB
       have BK153 := n0_
       have HB := n1_
       clear n0_ n1_
       refine start_ (n := 10) (S := fun w' => w'.cell? ⟨gb153, 0, none⟩ = some (.int .i64 a1_0) ∧ w'.cell? ⟨gb153, 1, none⟩ = some (.int .i64 a1_1) ∧ w'.cell? ⟨gb153, 2, none⟩ = some (.int .i64 a1_2)) (ds := []) #[false, false, false, false, false, false, false, false, false, false] (by kernel_rfl) rfl rfl ⟨(blk_cell BK153.out 0).trans rfl, (blk_cell BK153.out 1).trans rfl, (blk_cell BK153.out 2).trans rfl⟩ (fun hHeld => ?_); refine with_tabW spec_MapDo.tab10 spec_MapDo.bits10 (fun HT_ HW_ => ?_)
       generalize wc.drew = w30 at BK153 HB hHeld ⊢
       refine pure_ (i := 0) (N := some 43) (v := ?_) (a' := ?_) #[true, false, false, false, false, false, false, false, false, false] rfl rfl (any_of HT_.out (by kernel_rfl)) (fun _ _ _ h => h) (Or.inl ⟨by rfl, ?_⟩) ?_ ?_
       rotate_left
       ·intro w'
        go_simp
        with_reducible rfl
       rotate_left
       ·simp only [Act.put, List.setIfInBounds_toArray, List.set_cons_zero, List.set_cons_succ, i64_w, i32_w]
        rfl
       refine pure_ (i := 1) (N := some 44) (v := ?_) (a' := ?_) #[true, true, false, false, false, false, false, false, false, false] rfl rfl (any_of HT_.out (by kernel_rfl)) (fun _ _ _ h => h) (Or.inl ⟨by rfl, ?_⟩) ?_ ?_
       rotate_left
       ·intro w'
        go_simp
        with_reducible rfl
       rotate_left
       ·simp only [Act.put, List.setIfInBounds_toArray, List.set_cons_zero, List.set_cons_succ, i64_w, i32_w]
        rfl
       refine pure_ (i := 3) (N := some 46) (v := ?_) (a' := ?_) #[true, true, false, true, false, false, false, false, false, false] rfl rfl (any_of HT_.out (by kernel_rfl)) (fun _ _ _ h => h) (Or.inl ⟨by rfl, ?_⟩) ?_ ?_
       rotate_left
       ·intro w'
        go_simp
        with_reducible rfl
       rotate_left
       ·simp only [Act.put, List.setIfInBounds_toArray, List.set_cons_zero, List.set_cons_succ, i64_w, i32_w]
        rfl
       refine pure_ (i := 4) (N := some 47) (v := ?_) (a' := ?_) #[true, true, false, true, true, false, false, false, false, false] rfl rfl (any_of HT_.out (by kernel_rfl)) (fun _ _ _ h => h) (Or.inl ⟨by rfl, ?_⟩) ?_ ?_
       rotate_left
       ·intro w'
        go_simp
        with_reducible rfl
       rotate_left
       ·simp only [Act.put, List.setIfInBounds_toArray, List.set_cons_zero, List.set_cons_succ, i64_w, i32_w]
        rfl
       refine take_ (i := 2) (N := some 45) (v := ?_) (a' := ?_) #[true, true, true, true, true, false, false, false, false, false] rfl rfl (take_ofW HT_.out HW_.out (by kernel_rfl)) (fun _ _ _ h => h) (Or.inl ⟨by rfl, ?_⟩) hHeld ?_ ?_
       rotate_left
       ·rintro w' ⟨s0, s1, s2⟩
        go_simp
        with_reducible rfl
       rotate_left
       ·simp only [Act.put, List.setIfInBounds_toArray, List.set_cons_zero, List.set_cons_succ, i64_w, i32_w]
        rfl
       refine take_ (i := 5) (N := some 48) (v := ?_) (a' := ?_) #[true, true, true, true, true, true, false, false, false, false] rfl rfl (take_ofW HT_.out HW_.out (by kernel_rfl)) (fun _ _ _ h => h) (Or.inl ⟨by rfl, ?_⟩) hHeld ?_ ?_
       rotate_left
       ·rintro w' ⟨s0, s1, s2⟩
        go_simp
        with_reducible rfl
       rotate_left
       ·simp only [Act.put, List.setIfInBounds_toArray, List.set_cons_zero, List.set_cons_succ, i64_w, i32_w]
        rfl
       refine pure_ (i := 6) (N := some 49) (v := ?_) (a' := ?_) #[true, true, true, true, true, true, true, false, false, false] rfl rfl (any_of HT_.out (by kernel_rfl)) (fun _ _ _ h => h) (Or.inl ⟨by rfl, ?_⟩) ?_ ?_
       rotate_left
       ·intro w'
        go_simp
        with_reducible rfl
       rotate_left
       ·simp only [Act.put, List.setIfInBounds_toArray, List.set_cons_zero, List.set_cons_succ, i64_w, i32_w]
        rfl
       refine one_ (i := 7) (N := some 50) #[true, true, true, true, true, true, true, true, false, false] rfl rfl (one_of HT_.out (by kernel_rfl)) (by decide) (fun K hK => ?_)
       refine goes_ Try.func93 (by kernel_rfl) rfl #[.int .i64 (wrap64 (t162 + a1_2))] (by rfl) rfl rfl z1_ ?_
       with_reducible refine (spec_l1Clamp.calls (wrap64 (t162 + a1_2)) t170 _ A27.out).mono ?_
       rintro e w' ⟨rfl, ⟨nd, rfl⟩⟩
       refine ⟨_, rfl, ?_⟩
       refine hK.out _ _ ⟨(blk_cell BK153.out 0).trans rfl, (blk_cell BK153.out 1).trans rfl, (blk_cell BK153.out 2).trans rfl⟩ (fun hHeld => ?_)
       clear hK K
       refine norm_ (a' := ?_) ?_ ?_
       rotate_left
       ·show Act.put _ (some 50) _ = _
        simp only [Act.put, List.setIfInBounds_toArray, List.set_cons_zero, List.set_cons_succ, i64_w, i32_w]
        rfl
       refine one_ (i := 8) (N := some 51) #[true, true, true, true, true, true, true, true, true, false] rfl rfl (one_of HT_.out (by kernel_rfl)) (by decide) (fun K hK => ?_)
       refine goes_ Try.func127 (by kernel_rfl) rfl #[.slice A0 l0.length c0, .int .i64 a1_1, .int .i64 t170] (by rfl) rfl rfl z1_ ?_
       with_reducible refine (spec_l1Put.calls kj2 _ _ l0 a1_1 t170 t171 _ ?side1 ?side2 A28.out).mono ?_
       (case side1 => repeat (first | exact (Kd.C_below HR0.out z22_) | (with_reducible refine Kd.C_alloc ?_ _) | (with_reducible refine Kd.C_drewN ?_ _) | (with_reducible refine Kd.C_drew ?_)))
       (case side2 => exact HC0.out)
       rintro e w31 ⟨v172, rfl, ho0, hb⟩
       refine ⟨_, rfl, ?_⟩
       have n0_ := q_ (Kd.R_lower ho0 (below_size z22_))
       have n1_ := q_ (blk_below (g := gb153) (o := .cells #[.int .i64 a1_0, .int .i64 a1_1, .int .i64 a1_2] 67 (0, 0)) z45_ hb)
       have n2_ := q_ (below_step z22_ hb)
       clear BK153
       clear HB
       have HO173 := n0_
       have BK153 := n1_
       have HB := n2_
       clear n0_ n1_ n2_
       (try clear hb)
       (try clear hb2)
       (try clear hk)
       (try clear hi)
       (try clear ho0)
       refine hK.out _ _ ⟨(blk_cell BK153.out 0).trans rfl, (blk_cell BK153.out 1).trans rfl, (blk_cell BK153.out 2).trans rfl⟩ (fun hHeld => ?_)
       clear hK K
       refine norm_ (a' := ?_) ?_ ?_
       rotate_left
       ·show Act.put _ (some 51) _ = _
        simp only [Act.put, List.setIfInBounds_toArray, List.set_cons_zero, List.set_cons_succ, i64_w, i32_w]
        rfl
       refine pure_ (i := 9) (N := some 4) (v := ?_) (a' := ?_) #[true, true, true, true, true, true, true, true, true, true] rfl rfl (any_of HT_.out (by kernel_rfl)) (fun _ _ _ h => h) (Or.inl ⟨by rfl, ?_⟩) ?_ ?_
       rotate_left
       ·intro w'
        go_simp
        with_reducible rfl
       rotate_left
       ·simp only [Act.put, List.setIfInBounds_toArray, List.set_cons_zero, List.set_cons_succ, i64_w, i32_w]
        rfl
       refine done_ (done_of HT_.out (by kernel_rfl)) ?_
       try go_wp2
       go_ret
       exact ⟨_, z4_, by (with_reducible repeat (first | apply Kd.R_alloc | apply Kd.R_drewN | apply Kd.R_drew)); exact HO173.out, z22_⟩
      ·rw [if_neg c26] at H
       have c26b0 : (a1_0 == 3) = false := beq_eq_false_iff_ne.mpr c26
       have c26b1 : (a1_0 != 3) = true := bne_iff_ne.mpr c26
       obtain ⟨y174, hy174⟩ : ∃ y_ : List (S147), y_ = (([] : List (S147))) := ⟨_, rfl⟩
       replace H : (if y174.length + l0.length < 8796093022208 then (some (y174 ++ l0)) else (none)) = some r := by first | (rw [hy174]; with_reducible exact H) | (have H2_ := (Option.bind_some _ _).symm.trans H; rw [hy174]; with_reducible exact H2_) | (have H2_ := (Option.bind_some _ _).symm.trans H; with_reducible exact H2_) | with_reducible exact H | (rw [hy174]; exact H) | exact H
       have Ny174 := q_ hy174
       clear hy174
       by_cases c32 : y174.length + l0.length < 8796093022208
       ·rw [if_pos c32] at H
        have LMc32 := q_ c32
        clear c32
        obtain ⟨y177, hy177⟩ : ∃ y_ : List (S147), y_ = (y174 ++ l0) := ⟨_, rfl⟩
        replace H : (some y177) = some r := by first | (rw [hy177]; with_reducible exact H) | (have H2_ := (Option.bind_some _ _).symm.trans H; rw [hy177]; with_reducible exact H2_) | (have H2_ := (Option.bind_some _ _).symm.trans H; with_reducible exact H2_) | with_reducible exact H | (rw [hy177]; exact H) | exact H
        have Ny177 := q_ hy177
        clear hy177
        obtain rfl := Option.some.inj H
        obtain ⟨hcz33_0, hcz33_1, hcz33_2, hfz33_0, hfz33_1, hfz33_2⟩ := cs3_ BK153.out
        go_wp2_with (first | ((with_reducible refine gate_callee (f := 67) rfl ?_); refine goesL_ (some 22) rfl rfl Try.func67 (by kernel_rfl) rfl #[.slice A0 l0.length c0, .int .i64 a1_1] rfl z1_ ?_; (with_reducible refine (spec_MapGet.calls kj2 _ _ l0 a1_1 t162 t163 _ ?side1 ?side2 A17.out).mono ?_); (case side1 => exact z109_); (case side2 => exact HC0.out); rintro e w' ⟨rfl, ⟨nd, rfl⟩⟩; refine ⟨_, rfl, ?_⟩) | ((with_reducible refine gate_dst (N := 52) rfl ?_); refine Kd.R_lit k147 _ 147 ?hg (N := 52) ?hd (xs := ([] : List (S147))) (inner := []) (ok := fun _ => True) (okp := fun _ => True) ?hr ?hp (fun _ hk => hk) trivial (Below.refl _ _) (Nat.le_refl _) (by simp) ?_; (case hd => rfl); (case hg => rfl); (case hr => exact z108_); (case hp => exact z140_); intro v175 w34 ho35 hb hg_ hnew_; clear hg_ hnew_; (first | rw [← Ny174.out] at ho35 | (simp only [Int.reduceToNat] at ho35; rw [← Ny174.out] at ho35)); have n0_ := q_ (Kd.R_lower ho35 (below_size z0_)); have n1_ := q_ (below_step z0_ hb); clear HB; have HO176 := n0_; have HB := n1_; clear n0_ n1_; clear hb ho35) | ((with_reducible refine gate_builtin (b := .append) (xs := #[.tmp 52, .tmp 53]) rfl ?_); at_builtin; refine Kd.R_append_rows k147 (w0 := w) w.heap.size rfl (.tmp 52) (.tmp 53) 42 147 (.agg #[(.int .i64 0), (.int .i64 0)]) 16 rfl Try.underlying42 info147 rfl (by decide) (by omega) v175 y174 l0 _ _ _ (fun _ => True) (fun _ => False) rfl rfl ?aO ?aR (fun _ _ h => h) (fun _ h => h.elim) ?aF ?aB ?aS ?aL ?_; (case aR => exact z109_); (case aB => exact z0_); (case aF => exact z134_); (case aO => exact (by (with_reducible repeat (first | apply Kd.R_alloc | apply Kd.R_drewN | apply Kd.R_drew)); exact HO176.out)); (case aS => exact z138_); (case aL => have := LMc32.out; omega); intro v178 w36 ho hb hg hat; rw [← Ny177.out] at ho; have n0_ := q_ (hb); have n1_ := q_ (ho); clear HB; clear HO176; have HB := n0_; have HO179 := n1_; clear n0_ n1_; clear ho hb hg hat))
        go_ret
        exact ⟨_, z4_, by (with_reducible repeat (first | apply Kd.R_alloc | apply Kd.R_drewN | apply Kd.R_drew)); exact HO179.out, z0_⟩
       ·rw [if_neg c32] at H
        exact absurd H (by simp)

/-! ### spec_MapAll: function 62 -/
def spec_MapAll.l0 : Nat → List (S67) → List (S147) → Int → Option ((List (S147)))
 | 0, _, _, _ => none
 | k + 1, x1, x5, x6 => if x6 < (x1.length : Int) then (if 0 ≤ x6 then ((spec_MapDo.f k x5 ((rd_T67 x1 x6).f0) ((rd_T67 x1 x6).f1) ((rd_T67 x1 x6).f2)).bind fun t187 => (spec_MapAll.l0 k x1 t187 (wrap64 (x6 + 1)))) else (none)) else (some x5)
def spec_MapAll.f (k : Nat) (l0 : List (S147)) (l1 : List (S67)) : Option ((List (S147))) := (some (([] : List (S147)) : List (S147))).bind fun y180 => (if y180.length + l0.length < 8796093022208 then (spec_MapAll.l0 k l1 (y180 ++ l0) 0) else (none))
theorem spec_MapAll.mono_l : ∀ k, (∀ y0 y1 y2, LeO (spec_MapAll.l0 k y0 y1 y2) (spec_MapAll.l0 (k + 1) y0 y1 y2))
 | 0 => fun _ _ _ r h => by simp [spec_MapAll.l0] at h
 | k + 1 => by
  have ih0 := spec_MapAll.mono_l k
  ·intro y0 y1 y2
   unfold spec_MapAll.l0
   repeat' first
   | (with_reducible exact ih0 _ _ _)
   | (with_reducible exact spec_MapDo.mono _ _ _ _ _)
   | (with_reducible exact LeO.refl _)
   | (with_reducible exact LeO.none _)
   | (with_reducible refine LeO.ite ?_ ?_)
   | (with_reducible refine LeO.bind ?_ (fun _ => ?_))
   | exact ih0 _ _ _
   | exact spec_MapDo.mono _ _ _ _ _
   | exact LeO.none _
   | refine LeO.ite ?_ ?_
   | refine LeO.bind ?_ (fun _ => ?_)
theorem spec_MapAll.mono : ∀ a0 a1 k, LeO (spec_MapAll.f k a0 a1) (spec_MapAll.f (k + 1) a0 a1) := by
 intro a0 a1 k
 have ih0 := spec_MapAll.mono_l k
 unfold spec_MapAll.f
 repeat' first
   | (with_reducible exact ih0 _ _ _)
   | (with_reducible exact spec_MapDo.mono _ _ _ _ _)
   | (with_reducible exact LeO.refl _)
   | (with_reducible exact LeO.none _)
   | (with_reducible refine LeO.ite ?_ ?_)
   | (with_reducible refine LeO.bind ?_ (fun _ => ?_))
   | exact ih0 _ _ _
   | exact spec_MapDo.mono _ _ _ _ _
   | exact LeO.none _
   | refine LeO.ite ?_ ?_
   | refine LeO.bind ?_ (fun _ => ?_)
set_option maxHeartbeats 8000000 in
set_option maxRecDepth 100000 in
theorem spec_MapAll.calls (k : Nat) (A0 : Option Addr) (c0 : Nat) (l0 : List (S147)) (A1 : Option Addr) (c1 : Nat) (l1 : List (S67)) (r : List (S147)) (w : World) (hr0 : Kd.C k147 w A0 l0.length l0) (hc0 : l0.length ≤ c0) (hr1 : Kd.C k67 w A1 l1.length l1) (hc1 : l1.length ≤ c1) (h : spec_MapAll.f k l0 l1 = some r) :
  Calls Try.prog 62 #[.slice A0 l0.length c0, .slice A1 l1.length c1] w fun e w' => ∃ v0_ : Value, e = .returned (v0_) ∧ Kd.R k147 147 w' w.heap.size (fun _ => True) v0_ r ∧ Below w.heap.size w w' := by
 have hu67 := Try.underlying67
 have HR0 := q_ hr0
 have HC0 := q_ hc0
 clear hr0 hc0
 have HR1 := q_ hr1
 have HC1 := q_ hc1
 clear hr1 hc1
 have HB := q_ (Below.refl w.heap.size w)
 have H : ((some (([] : List (S147)) : List (S147))).bind fun y180 => (if y180.length + l0.length < 8796093022208 then (spec_MapAll.l0 k l1 (y180 ++ l0) 0) else (none))) = some r := h
 clear h
 obtain ⟨y180, hy180⟩ : ∃ y_ : List (S147), y_ = (([] : List (S147))) := ⟨_, rfl⟩
 replace H : (if y180.length + l0.length < 8796093022208 then (spec_MapAll.l0 k l1 (y180 ++ l0) 0) else (none)) = some r := by first | (rw [hy180]; with_reducible exact H) | (have H2_ := (Option.bind_some _ _).symm.trans H; rw [hy180]; with_reducible exact H2_) | (have H2_ := (Option.bind_some _ _).symm.trans H; with_reducible exact H2_) | with_reducible exact H | (rw [hy180]; exact H) | exact H
 have Ny180 := q_ hy180
 clear hy180
 by_cases c3 : y180.length + l0.length < 8796093022208
 ·rw [if_pos c3] at H
  have LMc3 := q_ c3
  clear c3
  obtain ⟨y183, hy183⟩ : ∃ y_ : List (S147), y_ = (y180 ++ l0) := ⟨_, rfl⟩
  replace H : (spec_MapAll.l0 k l1 y183 0) = some r := by first | (rw [hy183]; with_reducible exact H) | (have H2_ := (Option.bind_some _ _).symm.trans H; rw [hy183]; with_reducible exact H2_) | (have H2_ := (Option.bind_some _ _).symm.trans H; with_reducible exact H2_) | with_reducible exact H | (rw [hy183]; exact H) | exact H
  have Ny183 := q_ hy183
  clear hy183
  have H' := q_ H
  clear H
  go_enter Try.func62, Try.ntmps62
  go_wp2_with (first | ((with_reducible refine gate_dst (N := 7) rfl ?_); refine Kd.R_lit k147 _ 147 ?hg (N := 7) ?hd (xs := ([] : List (S147))) (inner := []) (ok := fun _ => True) (okp := fun _ => True) ?hr ?hp (fun _ hk => hk) trivial (Below.refl _ _) (Nat.le_refl _) (by simp) ?_; (case hd => rfl); (case hg => rfl); (case hr => exact z108_); (case hp => exact z140_); intro v181 w4 ho5 hb hg_ hnew_; clear hg_ hnew_; (first | rw [← Ny180.out] at ho5 | (simp only [Int.reduceToNat] at ho5; rw [← Ny180.out] at ho5)); have n0_ := q_ (Kd.R_lower ho5 (below_size z0_)); have n1_ := q_ (below_step z0_ hb); clear HB; have HO182 := n0_; have HB := n1_; clear n0_ n1_; clear hb ho5) | ((with_reducible refine gate_builtin (b := .append) (xs := #[.tmp 7, .tmp 8]) rfl ?_); at_builtin; refine Kd.R_append_rows k147 (w0 := w) w.heap.size rfl (.tmp 7) (.tmp 8) 42 147 (.agg #[(.int .i64 0), (.int .i64 0)]) 16 rfl Try.underlying42 info147 rfl (by decide) (by omega) v181 y180 l0 _ _ _ (fun _ => True) (fun _ => False) rfl rfl ?aO ?aR (fun _ _ h => h) (fun _ h => h.elim) ?aF ?aB ?aS ?aL ?_; (case aR => exact z109_); (case aB => exact z0_); (case aF => exact z134_); (case aO => exact (by (with_reducible repeat (first | apply Kd.R_alloc | apply Kd.R_drewN | apply Kd.R_drew)); exact HO182.out)); (case aS => exact z138_); (case aL => have := LMc3.out; omega); intro v184 w6 ho hb hg hat; rw [← Ny183.out] at ho; have n0_ := q_ (hb); have n1_ := q_ (ho); clear HB; clear HO182; have HB := n0_; have HO185 := n1_; clear n0_ n1_; clear ho hb hg hat))
  go_loopg [5, 6] k (fun kq v5 v6 w' => ∃ (x5_1 : List (S147)) (x6_1 : Int), v6 = .int .i64 x6_1 ∧ Aside0 (spec_MapAll.l0 kq l1 x5_1 x6_1 = some r) ∧ Aside0 (kq ≤ k) ∧ Aside0 (Kd.R k147 147 w' w.heap.size (fun _ => True) v5 x5_1) ∧ Aside0 (Below w.heap.size w w'))
  case atStart => exact ⟨(y183), (0), z7_, H', ⟨Nat.le_refl _⟩, ⟨by (with_reducible repeat (first | apply Kd.R_alloc | apply Kd.R_drewN | apply Kd.R_drew)); exact HO185.out⟩, ⟨z0_⟩⟩
  case round =>
   clear H'
   try clear c1
   try clear p2
   try clear c3
   try clear c6
   obtain ⟨x5_1, x6_1, rfl, HA, HK1, HO_5, HB⟩ := hrel
   cases gk with
   | zero => exact absurd HA.out (by simp [spec_MapAll.l0])
   | succ k1 =>
    have H := HA.out
    clear HA
    simp only [spec_MapAll.l0] at H
    by_cases c7 : x6_1 < (l1.length : Int)
    ·rw [if_pos c7] at H
     have c7b0 : decide (x6_1 < (l1.length : Int)) = true := decide_eq_true c7
     clear c7
     by_cases c8 : 0 ≤ x6_1
     ·rw [if_pos c8] at H
      have c8b0 : decide (0 ≤ x6_1) = true := decide_eq_true c8
      clear c8
      replace H := Option.bind_eq_some_iff.mp H
      obtain ⟨t187, A90, H⟩ := H
      replace H : (spec_MapAll.l0 k1 l1 t187 (wrap64 (x6_1 + 1))) = some r := H
      have A9 := q_ A90
      clear A90
      have H' := q_ H
      clear H
      have p186 : 0 ≤ (x6_1 : Int) := of_decide_eq_true z5_
      have q186 : x6_1 < (l1.length : Int) := of_decide_eq_true z5_
      obtain ⟨ad186, e186, hx186_0, hx186_1, hx186_2⟩ := at_T67 HR1.out x6_1 p186 q186
      cases e186
      replace hx186_0 := up_ HB hx186_0
      replace hx186_1 := up_ HB hx186_1
      replace hx186_2 := up_ HB hx186_2
      replace p186 := eq_true p186
      replace q186 := eq_true q186
      obtain ⟨Ao10, co10, eo10⟩ := Kd.R_slice HO_5.out
      subst eo10
      go_wp2_with (first | ((with_reducible refine gate_callee (f := 48) rfl ?_); refine goesL_ (some 21) rfl rfl Try.func48 (by kernel_rfl) rfl #[.slice Ao10 x5_1.length co10, .agg #[.int .i64 ((rd_T67 l1 x6_1).f0), .int .i64 ((rd_T67 l1 x6_1).f1), .int .i64 ((rd_T67 l1 x6_1).f2)]] rfl z1_ ?_; (with_reducible refine (spec_MapDo.calls k1 _ _ x5_1 ((rd_T67 l1 x6_1).f0) ((rd_T67 l1 x6_1).f1) ((rd_T67 l1 x6_1).f2) t187 _ ?side1 ?side2 A9.out).mono ?_); (case side1 => exact z132_); (case side2 => exact (Kd.R_reads' HO_5.out).2.1); rintro e w11 ⟨v188, rfl, ho0, hb⟩; refine ⟨_, rfl, ?_⟩; have n0_ := q_ (Kd.R_elder' z17_ (Kd.R_base ho0) hb); have n1_ := q_ (Kd.R_lower (Kd.R_new' ho0 (Kd.R_lt z17_)) (below_size z0_)); have n2_ := q_ (below_step z0_ hb); clear HO_5; clear HB; have HO_5 := n0_; have HO189 := n1_; have HB := n2_; clear n0_ n1_ n2_; (try clear hb); (try clear hb2); (try clear hk); (try clear hi); (try clear ho0)))
      go_roundg k1
      case measure => have := HK1.out; omega
      case rel => exact ⟨(t187), (wrap64 (x6_1 + 1)), z7_, H', ⟨z67_⟩, ⟨by (with_reducible repeat (first | apply Kd.R_alloc | apply Kd.R_drewN | apply Kd.R_drew)); exact Kd.R_mono HO189.out (fun _ hk => trivial)⟩, ⟨z0_⟩⟩
     ·rw [if_neg c8] at H
      exact absurd H (by simp)
    ·rw [if_neg c7] at H
     have c7b0 : decide (x6_1 < (l1.length : Int)) = false := decide_eq_false c7
     clear c7
     obtain rfl := Option.some.inj H
     go_wp2
     go_ret
     exact ⟨_, z4_, z17_, z0_⟩
 ·rw [if_neg c3] at H
  exact absurd H (by simp)

/-! ### impl_within: function 176 -/
def impl_within.f (a0 : Int) (a1 : Int) (a2 : Int) : Option (Bool) := if a0 ≥ a1 then (some (decide (a0 ≤ a2))) else (some false)
set_option maxHeartbeats 8000000 in
set_option maxRecDepth 100000 in
theorem impl_within.calls (a0 : Int) (a1 : Int) (a2 : Int) (r : Bool) (w : World) (h : impl_within.f a0 a1 a2 = some r) :
  Calls Try.prog 176 #[.int .i64 a0, .int .i64 a1, .int .i64 a2] w fun e w' => e = .returned (.bool r) ∧ Drawn0 w w' := by
 have H : (if a0 ≥ a1 then (some (decide (a0 ≤ a2))) else (some false)) = some r := h
 clear h
 by_cases c4 : a0 ≥ a1
 ·rw [if_pos c4] at H
  have c4b0 : decide (a1 ≤ a0) = true := decide_eq_true c4
  clear c4
  obtain rfl := Option.some.inj H
  go_enter Try.func176, Try.ntmps176
  go_wp2
  go_ret
  exact ⟨z7_, z31_⟩
 ·rw [if_neg c4] at H
  have c4b0 : decide (a1 ≤ a0) = false := decide_eq_false c4
  clear c4
  obtain rfl := Option.some.inj H
  go_enter Try.func176, Try.ntmps176
  go_wp2
  go_ret
  exact ⟨z7_, z31_⟩

/-! ### impl_isKey: function 136 -/
def impl_isKey.f (a0 : Int) : Option (Bool) := (impl_within.f a0 0 999).bind fun t190 => (some t190)
set_option maxHeartbeats 8000000 in
set_option maxRecDepth 100000 in
theorem impl_isKey.calls (a0 : Int) (r : Bool) (w : World) (h : impl_isKey.f a0 = some r) :
  Calls Try.prog 136 #[.int .i64 a0] w fun e w' => e = .returned (.bool r) ∧ Drawn0 w w' := by
 have H : ((impl_within.f a0 0 999).bind fun t190 => (some t190)) = some r := h
 clear h
 replace H := Option.bind_eq_some_iff.mp H
 obtain ⟨t190, A20, H⟩ := H
 replace H : (some t190) = some r := H
 have A2 := q_ A20
 clear A20
 obtain rfl := Option.some.inj H
 go_enter Try.func136, Try.ntmps136
 go_wp2_with (first | ((with_reducible refine gate_callee (f := 176) rfl ?_); refine goesL_ (some 4) rfl rfl Try.func176 (by kernel_rfl) rfl #[.int .i64 a0, .int .i64 0, .int .i64 999] rfl z1_ ?_; (with_reducible refine (impl_within.calls a0 0 999 t190 _ A2.out).mono ?_); rintro e w' ⟨rfl, ⟨nd, rfl⟩⟩; refine ⟨_, rfl, ?_⟩))
 go_ret
 exact ⟨z7_, z31_⟩

/-! ### impl_isNum: function 137 -/
def impl_isNum.f (a0 : Int) : Option (Bool) := (impl_within.f a0 (-1000000000) 1000000000).bind fun t191 => (some t191)
set_option maxHeartbeats 8000000 in
set_option maxRecDepth 100000 in
theorem impl_isNum.calls (a0 : Int) (r : Bool) (w : World) (h : impl_isNum.f a0 = some r) :
  Calls Try.prog 137 #[.int .i64 a0] w fun e w' => e = .returned (.bool r) ∧ Drawn0 w w' := by
 have H : ((impl_within.f a0 (-1000000000) 1000000000).bind fun t191 => (some t191)) = some r := h
 clear h
 replace H := Option.bind_eq_some_iff.mp H
 obtain ⟨t191, A20, H⟩ := H
 replace H : (some t191) = some r := H
 have A2 := q_ A20
 clear A20
 obtain rfl := Option.some.inj H
 go_enter Try.func137, Try.ntmps137
 go_wp2_with (first | ((with_reducible refine gate_callee (f := 176) rfl ?_); refine goesL_ (some 4) rfl rfl Try.func176 (by kernel_rfl) rfl #[.int .i64 a0, .int .i64 (-1000000000), .int .i64 1000000000] rfl z1_ ?_; (with_reducible refine (impl_within.calls a0 (-1000000000) 1000000000 t191 _ A2.out).mono ?_); rintro e w' ⟨rfl, ⟨nd, rfl⟩⟩; refine ⟨_, rfl, ?_⟩))
 go_ret
 exact ⟨z7_, z31_⟩

/-! ### impl_MapOk: function 57 -/
def impl_MapOk.l0 : Nat → List (S147) → List (S147) → Int → Int → Option (Bool)
 | 0, _, _, _, _ => none
 | k + 1, x0, x5, x6, x7 => if x7 < x6 then (if 0 ≤ x7 then (if x7 < (x5.length : Int) then ((impl_isKey.f ((rd_T147 x5 x7).f0)).bind fun t194 => (if t194 = true then ((impl_isNum.f ((rd_T147 x5 x7).f1)).bind fun t195 => (if t195 = true then (if x7 > 0 then (if 0 ≤ (wrap64 (x7 - 1)) then (if (wrap64 (x7 - 1)) < (x0.length : Int) then (if ((rd_T147 x0 (wrap64 (x7 - 1))).f0) ≥ ((rd_T147 x5 x7).f0) then (some false) else (impl_MapOk.l0 k x0 x5 x6 (wrap64 (x7 + 1)))) else (none)) else (none)) else (impl_MapOk.l0 k x0 x5 x6 (wrap64 (x7 + 1)))) else (some false))) else (some false))) else (none)) else (none)) else (some true)
def impl_MapOk.f (k : Nat) (l0 : List (S147)) : Option (Bool) := impl_MapOk.l0 k l0 l0 (l0.length : Int) 0
theorem impl_MapOk.mono_l : ∀ k, (∀ y0 y1 y2 y3, LeO (impl_MapOk.l0 k y0 y1 y2 y3) (impl_MapOk.l0 (k + 1) y0 y1 y2 y3))
 | 0 => fun _ _ _ _ r h => by simp [impl_MapOk.l0] at h
 | k + 1 => by
  have ih0 := impl_MapOk.mono_l k
  ·intro y0 y1 y2 y3
   unfold impl_MapOk.l0
   repeat' first
   | (with_reducible exact ih0 _ _ _ _)
   | (with_reducible exact LeO.refl _)
   | (with_reducible exact LeO.none _)
   | (with_reducible refine LeO.ite ?_ ?_)
   | (with_reducible refine LeO.bind ?_ (fun _ => ?_))
   | exact ih0 _ _ _ _
   | exact LeO.none _
   | refine LeO.ite ?_ ?_
   | refine LeO.bind ?_ (fun _ => ?_)
theorem impl_MapOk.mono : ∀ a0 k, LeO (impl_MapOk.f k a0) (impl_MapOk.f (k + 1) a0) := by
 intro a0 k
 have ih0 := impl_MapOk.mono_l k
 unfold impl_MapOk.f
 repeat' first
   | (with_reducible exact ih0 _ _ _ _)
   | (with_reducible exact LeO.refl _)
   | (with_reducible exact LeO.none _)
   | (with_reducible refine LeO.ite ?_ ?_)
   | (with_reducible refine LeO.bind ?_ (fun _ => ?_))
   | exact ih0 _ _ _ _
   | exact LeO.none _
   | refine LeO.ite ?_ ?_
   | refine LeO.bind ?_ (fun _ => ?_)
set_option maxHeartbeats 8000000 in
set_option maxRecDepth 100000 in
theorem impl_MapOk.calls (k : Nat) (A0 : Option Addr) (c0 : Nat) (l0 : List (S147)) (r : Bool) (w : World) (hr0 : Kd.C k147 w A0 l0.length l0) (hc0 : l0.length ≤ c0) (h : impl_MapOk.f k l0 = some r) :
  Calls Try.prog 57 #[.slice A0 l0.length c0] w fun e w' => e = .returned (.bool r) ∧ Below w.heap.size w w' := by
 have hu147 := Try.underlying147
 have HR0 := q_ hr0
 have HC0 := q_ hc0
 clear hr0 hc0
 have HB := q_ (Below.refl w.heap.size w)
 have H : (impl_MapOk.l0 k l0 l0 (l0.length : Int) 0) = some r := h
 clear h
 have H' := q_ H
 clear H
 go_enter Try.func57, Try.ntmps57
 go_wp2
 repeat (go_quiet (fail); try go_wp2)
 go_loopg [7] k (fun kq v7 w' => ∃ (x7_1 : Int), v7 = .int .i64 x7_1 ∧ Aside0 (impl_MapOk.l0 kq l0 l0 (l0.length : Int) x7_1 = some r) ∧ Aside0 (kq ≤ k) ∧ Aside0 (Below w.heap.size w w'))
 case atStart => exact ⟨(0), z7_, H', ⟨Nat.le_refl _⟩, ⟨z0_⟩⟩
 case round =>
  clear H'
  obtain ⟨x7_1, rfl, HA, HK1, HB⟩ := hrel
  cases gk with
  | zero => exact absurd HA.out (by simp [impl_MapOk.l0])
  | succ k1 =>
   have H := HA.out
   clear HA
   simp only [impl_MapOk.l0] at H
   by_cases c2 : x7_1 < (l0.length : Int)
   ·rw [if_pos c2] at H
    have c2b0 : decide (x7_1 < (l0.length : Int)) = true := decide_eq_true c2
    clear c2
    by_cases c3 : 0 ≤ x7_1
    ·rw [if_pos c3] at H
     have c3b0 : decide (0 ≤ x7_1) = true := decide_eq_true c3
     clear c3
     by_cases c4 : x7_1 < (l0.length : Int)
     ·rw [if_pos c4] at H
      have c4b0 : decide (x7_1 < (l0.length : Int)) = true := decide_eq_true c4
      clear c4
      replace H := Option.bind_eq_some_iff.mp H
      obtain ⟨t194, A50, H⟩ := H
      replace H : (if t194 = true then ((impl_isNum.f ((rd_T147 l0 x7_1).f1)).bind fun t195 => (if t195 = true then (if x7_1 > 0 then (if 0 ≤ (wrap64 (x7_1 - 1)) then (if (wrap64 (x7_1 - 1)) < (l0.length : Int) then (if ((rd_T147 l0 (wrap64 (x7_1 - 1))).f0) ≥ ((rd_T147 l0 x7_1).f0) then (some false) else (impl_MapOk.l0 k1 l0 l0 (l0.length : Int) (wrap64 (x7_1 + 1)))) else (none)) else (none)) else (impl_MapOk.l0 k1 l0 l0 (l0.length : Int) (wrap64 (x7_1 + 1)))) else (some false))) else (some false)) = some r := H
      have A5 := q_ A50
      clear A50
      by_cases c6 : t194 = true
      ·subst c6
       have H1 : ((impl_isNum.f ((rd_T147 l0 x7_1).f1)).bind fun t195 => (if t195 = true then (if x7_1 > 0 then (if 0 ≤ (wrap64 (x7_1 - 1)) then (if (wrap64 (x7_1 - 1)) < (l0.length : Int) then (if ((rd_T147 l0 (wrap64 (x7_1 - 1))).f0) ≥ ((rd_T147 l0 x7_1).f0) then (some false) else (impl_MapOk.l0 k1 l0 l0 (l0.length : Int) (wrap64 (x7_1 + 1)))) else (none)) else (none)) else (impl_MapOk.l0 k1 l0 l0 (l0.length : Int) (wrap64 (x7_1 + 1)))) else (some false))) = some r := z51_
       clear H
       have H := H1
       clear H1
       replace H := Option.bind_eq_some_iff.mp H
       obtain ⟨t195, A70, H⟩ := H
       replace H : (if t195 = true then (if x7_1 > 0 then (if 0 ≤ (wrap64 (x7_1 - 1)) then (if (wrap64 (x7_1 - 1)) < (l0.length : Int) then (if ((rd_T147 l0 (wrap64 (x7_1 - 1))).f0) ≥ ((rd_T147 l0 x7_1).f0) then (some false) else (impl_MapOk.l0 k1 l0 l0 (l0.length : Int) (wrap64 (x7_1 + 1)))) else (none)) else (none)) else (impl_MapOk.l0 k1 l0 l0 (l0.length : Int) (wrap64 (x7_1 + 1)))) else (some false)) = some r := H
       have A7 := q_ A70
       clear A70
       by_cases c8 : t195 = true
       ·subst c8
        have H1 : (if x7_1 > 0 then (if 0 ≤ (wrap64 (x7_1 - 1)) then (if (wrap64 (x7_1 - 1)) < (l0.length : Int) then (if ((rd_T147 l0 (wrap64 (x7_1 - 1))).f0) ≥ ((rd_T147 l0 x7_1).f0) then (some false) else (impl_MapOk.l0 k1 l0 l0 (l0.length : Int) (wrap64 (x7_1 + 1)))) else (none)) else (none)) else (impl_MapOk.l0 k1 l0 l0 (l0.length : Int) (wrap64 (x7_1 + 1)))) = some r := z51_
        clear H
        have H := H1
        clear H1
        by_cases c9 : x7_1 > 0
        ·rw [if_pos c9] at H
         have c9b0 : decide (0 < x7_1) = true := decide_eq_true c9
         clear c9
         obtain ⟨ji10, hji10⟩ : ∃ j_ : Int, (wrap64 (x7_1 - 1)) = j_ := ⟨_, rfl⟩
         replace H : (if 0 ≤ (ji10) then (if (ji10) < (l0.length : Int) then (if ((rd_T147 l0 (ji10)).f0) ≥ ((rd_T147 l0 x7_1).f0) then (some false) else (impl_MapOk.l0 k1 l0 l0 (l0.length : Int) (wrap64 (x7_1 + 1)))) else (none)) else (none)) = some r := by first | (rw [hji10] at H; exact H) | (simp only [hji10] at H ⊢; exact H)
         (try rw [hji10] at A5)
         (try rw [hji10] at A7)
         have hji10w : (IntKind.i64.wrap (x7_1 - 1)) = ji10 := (i64_w _).trans hji10
         by_cases c11 : 0 ≤ (ji10)
         ·rw [if_pos c11] at H
          have c11b0 : decide (0 ≤ (ji10)) = true := decide_eq_true c11
          clear c11
          by_cases c12 : (ji10) < (l0.length : Int)
          ·rw [if_pos c12] at H
           have c12b0 : decide ((ji10) < (l0.length : Int)) = true := decide_eq_true c12
           clear c12
           by_cases c13 : ((rd_T147 l0 (ji10)).f0) ≥ ((rd_T147 l0 x7_1).f0)
           ·rw [if_pos c13] at H
            have c13b0 : decide (((rd_T147 l0 x7_1).f0) ≤ ((rd_T147 l0 (ji10)).f0)) = true := decide_eq_true c13
            clear c13
            obtain rfl := Option.some.inj H
            have p192 : 0 ≤ (x7_1 : Int) := of_decide_eq_true z5_
            have q192 : x7_1 < (l0.length : Int) := of_decide_eq_true z5_
            obtain ⟨ad192, e192, hx192_0, hx192_1⟩ := at_T147 HR0.out x7_1 p192 q192
            cases e192
            replace hx192_0 := up_ HB hx192_0
            replace hx192_1 := up_ HB hx192_1
            replace p192 := eq_true p192
            replace q192 := eq_true q192
            go_wp2_with (first | ((with_reducible refine gate_dst (N := 4) rfl ?_); refine box_event ?hg (N := 4) ?hd (cs := #[.int .i64 0, .int .i64 0]) (t := 147) ?hr ?_; (case hd => rfl); (case hg => rfl); (case hr => exact z108_); intro gb193 hg w14 hbox hb; have n0_ := q_ (below_step z0_ hb); have n1_ := q_ (hbox); have n2_ := q_ ((z91_ : w.heap.size ≤ gb193)); have n3_ := q_ ((z91_ : w.heap.size ≤ gb193)); clear HB; have HB := n0_; have BK193 := n1_; have GW193 := n2_; have GE193 := n3_; clear n0_ n1_ n2_ n3_; clear hb hbox hg; obtain ⟨hcz15_0, hcz15_1, hfz15_0, hfz15_1⟩ := cs2_ BK193.out) | (go_at_call 136; (with_reducible refine (impl_isKey.calls ((rd_T147 l0 x7_1).f0) true _ A5.out).mono ?_); rintro e w' ⟨rfl, ⟨nd, rfl⟩⟩; (try first | exact ⟨rfl, _, World.drewN_drewN _ _ _⟩ | exact ⟨rfl, _, Eq.trans (World.drewN_drewN _ _ _) (congrArg (World.drewN _) (Nat.add_assoc _ _ _))⟩)) | (go_at_call 137; (with_reducible refine (impl_isNum.calls ((rd_T147 l0 x7_1).f1) true _ A7.out).mono ?_); rintro e w' ⟨rfl, ⟨nd, rfl⟩⟩; (try first | exact ⟨rfl, _, World.drewN_drewN _ _ _⟩ | exact ⟨rfl, _, Eq.trans (World.drewN_drewN _ _ _) (congrArg (World.drewN _) (Nat.add_assoc _ _ _))⟩); have p196 : 0 ≤ ((ji10) : Int) := of_decide_eq_true z5_; have q196 : (ji10) < (l0.length : Int) := of_decide_eq_true z5_; obtain ⟨ad196, e196, hx196_0, hx196_1⟩ := at_T147 HR0.out (ji10) p196 q196; obtain rfl : ad192 = ad196 := z89_; have hn196_0 : ad192.block ≠ gb193 := Nat.ne_of_lt (Nat.lt_of_lt_of_le (by have := World.block_lt_of_cell? _ _ hx196_0; first | rwa [add_block] at this | exact this) GW193.out); have hn196_1 : ad192.block ≠ gb193 := Nat.ne_of_lt (Nat.lt_of_lt_of_le (by have := World.block_lt_of_cell? _ _ hx196_0; first | rwa [add_block] at this | exact this) GW193.out); replace hx196_0 := up_ HB hx196_0; replace hx196_1 := up_ HB hx196_1; replace hx196_0 := (cell_far (p := ⟨gb193, 0, none⟩) z26_ (.int .i64 ((rd_T147 l0 x7_1).f0))).trans hx196_0; replace hx196_1 := (cell_far (p := ⟨gb193, 0, none⟩) z26_ (.int .i64 ((rd_T147 l0 x7_1).f0))).trans hx196_1; replace hx196_0 := (cell_far (p := ⟨gb193, 1, none⟩) z27_ (.int .i64 ((rd_T147 l0 x7_1).f1))).trans hx196_0; replace hx196_1 := (cell_far (p := ⟨gb193, 1, none⟩) z27_ (.int .i64 ((rd_T147 l0 x7_1).f1))).trans hx196_1; (try have hy196_0 := fun (n_ : Nat) => (show ((((w14.drewN n_).setCell ⟨gb193, 0, none⟩ (.int .i64 ((rd_T147 l0 x7_1).f0))).setCell ⟨gb193, 1, none⟩ (.int .i64 ((rd_T147 l0 x7_1).f1)))).cell? _ = some _ from hx196_0)); (try have hy196_1 := fun (n_ : Nat) => (show ((((w14.drewN n_).setCell ⟨gb193, 0, none⟩ (.int .i64 ((rd_T147 l0 x7_1).f0))).setCell ⟨gb193, 1, none⟩ (.int .i64 ((rd_T147 l0 x7_1).f1)))).cell? _ = some _ from hx196_1)); clear hn196_0; clear hn196_1; replace p196 := eq_true p196; replace q196 := eq_true q196))
            repeat (go_quiet (first | ((with_reducible refine gate_dst (N := 4) rfl ?_); refine box_event ?hg (N := 4) ?hd (cs := #[.int .i64 0, .int .i64 0]) (t := 147) ?hr ?_; (case hd => rfl); (case hg => rfl); (case hr => exact z108_); intro gb193 hg w14 hbox hb; have n0_ := q_ (below_step z0_ hb); have n1_ := q_ (hbox); have n2_ := q_ ((z91_ : w.heap.size ≤ gb193)); have n3_ := q_ ((z91_ : w.heap.size ≤ gb193)); clear HB; have HB := n0_; have BK193 := n1_; have GW193 := n2_; have GE193 := n3_; clear n0_ n1_ n2_ n3_; clear hb hbox hg; obtain ⟨hcz15_0, hcz15_1, hfz15_0, hfz15_1⟩ := cs2_ BK193.out) | (go_at_call 136; (with_reducible refine (impl_isKey.calls ((rd_T147 l0 x7_1).f0) true _ A5.out).mono ?_); rintro e w' ⟨rfl, ⟨nd, rfl⟩⟩; (try first | exact ⟨rfl, _, World.drewN_drewN _ _ _⟩ | exact ⟨rfl, _, Eq.trans (World.drewN_drewN _ _ _) (congrArg (World.drewN _) (Nat.add_assoc _ _ _))⟩)) | (go_at_call 137; (with_reducible refine (impl_isNum.calls ((rd_T147 l0 x7_1).f1) true _ A7.out).mono ?_); rintro e w' ⟨rfl, ⟨nd, rfl⟩⟩; (try first | exact ⟨rfl, _, World.drewN_drewN _ _ _⟩ | exact ⟨rfl, _, Eq.trans (World.drewN_drewN _ _ _) (congrArg (World.drewN _) (Nat.add_assoc _ _ _))⟩); have p196 : 0 ≤ ((ji10) : Int) := of_decide_eq_true z5_; have q196 : (ji10) < (l0.length : Int) := of_decide_eq_true z5_; obtain ⟨ad196, e196, hx196_0, hx196_1⟩ := at_T147 HR0.out (ji10) p196 q196; obtain rfl : ad192 = ad196 := z89_; have hn196_0 : ad192.block ≠ gb193 := Nat.ne_of_lt (Nat.lt_of_lt_of_le (by have := World.block_lt_of_cell? _ _ hx196_0; first | rwa [add_block] at this | exact this) GW193.out); have hn196_1 : ad192.block ≠ gb193 := Nat.ne_of_lt (Nat.lt_of_lt_of_le (by have := World.block_lt_of_cell? _ _ hx196_0; first | rwa [add_block] at this | exact this) GW193.out); replace hx196_0 := up_ HB hx196_0; replace hx196_1 := up_ HB hx196_1; replace hx196_0 := (cell_far (p := ⟨gb193, 0, none⟩) z26_ (.int .i64 ((rd_T147 l0 x7_1).f0))).trans hx196_0; replace hx196_1 := (cell_far (p := ⟨gb193, 0, none⟩) z26_ (.int .i64 ((rd_T147 l0 x7_1).f0))).trans hx196_1; replace hx196_0 := (cell_far (p := ⟨gb193, 1, none⟩) z27_ (.int .i64 ((rd_T147 l0 x7_1).f1))).trans hx196_0; replace hx196_1 := (cell_far (p := ⟨gb193, 1, none⟩) z27_ (.int .i64 ((rd_T147 l0 x7_1).f1))).trans hx196_1; (try have hy196_0 := fun (n_ : Nat) => (show ((((w14.drewN n_).setCell ⟨gb193, 0, none⟩ (.int .i64 ((rd_T147 l0 x7_1).f0))).setCell ⟨gb193, 1, none⟩ (.int .i64 ((rd_T147 l0 x7_1).f1)))).cell? _ = some _ from hx196_0)); (try have hy196_1 := fun (n_ : Nat) => (show ((((w14.drewN n_).setCell ⟨gb193, 0, none⟩ (.int .i64 ((rd_T147 l0 x7_1).f0))).setCell ⟨gb193, 1, none⟩ (.int .i64 ((rd_T147 l0 x7_1).f1)))).cell? _ = some _ from hx196_1)); clear hn196_0; clear hn196_1; replace p196 := eq_true p196; replace q196 := eq_true q196)); try go_wp2_with (first | ((with_reducible refine gate_dst (N := 4) rfl ?_); refine box_event ?hg (N := 4) ?hd (cs := #[.int .i64 0, .int .i64 0]) (t := 147) ?hr ?_; (case hd => rfl); (case hg => rfl); (case hr => exact z108_); intro gb193 hg w14 hbox hb; have n0_ := q_ (below_step z0_ hb); have n1_ := q_ (hbox); have n2_ := q_ ((z91_ : w.heap.size ≤ gb193)); have n3_ := q_ ((z91_ : w.heap.size ≤ gb193)); clear HB; have HB := n0_; have BK193 := n1_; have GW193 := n2_; have GE193 := n3_; clear n0_ n1_ n2_ n3_; clear hb hbox hg; obtain ⟨hcz15_0, hcz15_1, hfz15_0, hfz15_1⟩ := cs2_ BK193.out) | (go_at_call 136; (with_reducible refine (impl_isKey.calls ((rd_T147 l0 x7_1).f0) true _ A5.out).mono ?_); rintro e w' ⟨rfl, ⟨nd, rfl⟩⟩; (try first | exact ⟨rfl, _, World.drewN_drewN _ _ _⟩ | exact ⟨rfl, _, Eq.trans (World.drewN_drewN _ _ _) (congrArg (World.drewN _) (Nat.add_assoc _ _ _))⟩)) | (go_at_call 137; (with_reducible refine (impl_isNum.calls ((rd_T147 l0 x7_1).f1) true _ A7.out).mono ?_); rintro e w' ⟨rfl, ⟨nd, rfl⟩⟩; (try first | exact ⟨rfl, _, World.drewN_drewN _ _ _⟩ | exact ⟨rfl, _, Eq.trans (World.drewN_drewN _ _ _) (congrArg (World.drewN _) (Nat.add_assoc _ _ _))⟩); have p196 : 0 ≤ ((ji10) : Int) := of_decide_eq_true z5_; have q196 : (ji10) < (l0.length : Int) := of_decide_eq_true z5_; obtain ⟨ad196, e196, hx196_0, hx196_1⟩ := at_T147 HR0.out (ji10) p196 q196; obtain rfl : ad192 = ad196 := z89_; have hn196_0 : ad192.block ≠ gb193 := Nat.ne_of_lt (Nat.lt_of_lt_of_le (by have := World.block_lt_of_cell? _ _ hx196_0; first | rwa [add_block] at this | exact this) GW193.out); have hn196_1 : ad192.block ≠ gb193 := Nat.ne_of_lt (Nat.lt_of_lt_of_le (by have := World.block_lt_of_cell? _ _ hx196_0; first | rwa [add_block] at this | exact this) GW193.out); replace hx196_0 := up_ HB hx196_0; replace hx196_1 := up_ HB hx196_1; replace hx196_0 := (cell_far (p := ⟨gb193, 0, none⟩) z26_ (.int .i64 ((rd_T147 l0 x7_1).f0))).trans hx196_0; replace hx196_1 := (cell_far (p := ⟨gb193, 0, none⟩) z26_ (.int .i64 ((rd_T147 l0 x7_1).f0))).trans hx196_1; replace hx196_0 := (cell_far (p := ⟨gb193, 1, none⟩) z27_ (.int .i64 ((rd_T147 l0 x7_1).f1))).trans hx196_0; replace hx196_1 := (cell_far (p := ⟨gb193, 1, none⟩) z27_ (.int .i64 ((rd_T147 l0 x7_1).f1))).trans hx196_1; (try have hy196_0 := fun (n_ : Nat) => (show ((((w14.drewN n_).setCell ⟨gb193, 0, none⟩ (.int .i64 ((rd_T147 l0 x7_1).f0))).setCell ⟨gb193, 1, none⟩ (.int .i64 ((rd_T147 l0 x7_1).f1)))).cell? _ = some _ from hx196_0)); (try have hy196_1 := fun (n_ : Nat) => (show ((((w14.drewN n_).setCell ⟨gb193, 0, none⟩ (.int .i64 ((rd_T147 l0 x7_1).f0))).setCell ⟨gb193, 1, none⟩ (.int .i64 ((rd_T147 l0 x7_1).f1)))).cell? _ = some _ from hx196_1)); clear hn196_0; clear hn196_1; replace p196 := eq_true p196; replace q196 := eq_true q196)))
            go_ret
            exact ⟨by first | rfl | (simp [errW_none, errW_some] <;> rfl) | (simp only [← hji10]; first | rfl | (simp [errW_none, errW_some] <;> rfl)) | (simp [*, errW_none, errW_some] <;> rfl), z48_⟩
           ·rw [if_neg c13] at H
            have c13b0 : decide (((rd_T147 l0 x7_1).f0) ≤ ((rd_T147 l0 (ji10)).f0)) = false := decide_eq_false c13
            clear c13
            have H' := q_ H
            clear H
            have p192 : 0 ≤ (x7_1 : Int) := of_decide_eq_true z5_
            have q192 : x7_1 < (l0.length : Int) := of_decide_eq_true z5_
            obtain ⟨ad192, e192, hx192_0, hx192_1⟩ := at_T147 HR0.out x7_1 p192 q192
            cases e192
            replace hx192_0 := up_ HB hx192_0
            replace hx192_1 := up_ HB hx192_1
            replace p192 := eq_true p192
            replace q192 := eq_true q192
            go_wp2_with (first | ((with_reducible refine gate_dst (N := 4) rfl ?_); refine box_event ?hg (N := 4) ?hd (cs := #[.int .i64 0, .int .i64 0]) (t := 147) ?hr ?_; (case hd => rfl); (case hg => rfl); (case hr => exact z108_); intro gb193 hg w16 hbox hb; have n0_ := q_ (below_step z0_ hb); have n1_ := q_ (hbox); have n2_ := q_ ((z91_ : w.heap.size ≤ gb193)); have n3_ := q_ ((z91_ : w.heap.size ≤ gb193)); clear HB; have HB := n0_; have BK193 := n1_; have GW193 := n2_; have GE193 := n3_; clear n0_ n1_ n2_ n3_; clear hb hbox hg; obtain ⟨hcz17_0, hcz17_1, hfz17_0, hfz17_1⟩ := cs2_ BK193.out) | (go_at_call 136; (with_reducible refine (impl_isKey.calls ((rd_T147 l0 x7_1).f0) true _ A5.out).mono ?_); rintro e w' ⟨rfl, ⟨nd, rfl⟩⟩; (try first | exact ⟨rfl, _, World.drewN_drewN _ _ _⟩ | exact ⟨rfl, _, Eq.trans (World.drewN_drewN _ _ _) (congrArg (World.drewN _) (Nat.add_assoc _ _ _))⟩)) | (go_at_call 137; (with_reducible refine (impl_isNum.calls ((rd_T147 l0 x7_1).f1) true _ A7.out).mono ?_); rintro e w' ⟨rfl, ⟨nd, rfl⟩⟩; (try first | exact ⟨rfl, _, World.drewN_drewN _ _ _⟩ | exact ⟨rfl, _, Eq.trans (World.drewN_drewN _ _ _) (congrArg (World.drewN _) (Nat.add_assoc _ _ _))⟩); have p196 : 0 ≤ ((ji10) : Int) := of_decide_eq_true z5_; have q196 : (ji10) < (l0.length : Int) := of_decide_eq_true z5_; obtain ⟨ad196, e196, hx196_0, hx196_1⟩ := at_T147 HR0.out (ji10) p196 q196; obtain rfl : ad192 = ad196 := z89_; have hn196_0 : ad192.block ≠ gb193 := Nat.ne_of_lt (Nat.lt_of_lt_of_le (by have := World.block_lt_of_cell? _ _ hx196_0; first | rwa [add_block] at this | exact this) GW193.out); have hn196_1 : ad192.block ≠ gb193 := Nat.ne_of_lt (Nat.lt_of_lt_of_le (by have := World.block_lt_of_cell? _ _ hx196_0; first | rwa [add_block] at this | exact this) GW193.out); replace hx196_0 := up_ HB hx196_0; replace hx196_1 := up_ HB hx196_1; replace hx196_0 := (cell_far (p := ⟨gb193, 0, none⟩) z26_ (.int .i64 ((rd_T147 l0 x7_1).f0))).trans hx196_0; replace hx196_1 := (cell_far (p := ⟨gb193, 0, none⟩) z26_ (.int .i64 ((rd_T147 l0 x7_1).f0))).trans hx196_1; replace hx196_0 := (cell_far (p := ⟨gb193, 1, none⟩) z27_ (.int .i64 ((rd_T147 l0 x7_1).f1))).trans hx196_0; replace hx196_1 := (cell_far (p := ⟨gb193, 1, none⟩) z27_ (.int .i64 ((rd_T147 l0 x7_1).f1))).trans hx196_1; (try have hy196_0 := fun (n_ : Nat) => (show ((((w16.drewN n_).setCell ⟨gb193, 0, none⟩ (.int .i64 ((rd_T147 l0 x7_1).f0))).setCell ⟨gb193, 1, none⟩ (.int .i64 ((rd_T147 l0 x7_1).f1)))).cell? _ = some _ from hx196_0)); (try have hy196_1 := fun (n_ : Nat) => (show ((((w16.drewN n_).setCell ⟨gb193, 0, none⟩ (.int .i64 ((rd_T147 l0 x7_1).f0))).setCell ⟨gb193, 1, none⟩ (.int .i64 ((rd_T147 l0 x7_1).f1)))).cell? _ = some _ from hx196_1)); clear hn196_0; clear hn196_1; replace p196 := eq_true p196; replace q196 := eq_true q196))
            repeat (go_quiet (first | ((with_reducible refine gate_dst (N := 4) rfl ?_); refine box_event ?hg (N := 4) ?hd (cs := #[.int .i64 0, .int .i64 0]) (t := 147) ?hr ?_; (case hd => rfl); (case hg => rfl); (case hr => exact z108_); intro gb193 hg w16 hbox hb; have n0_ := q_ (below_step z0_ hb); have n1_ := q_ (hbox); have n2_ := q_ ((z91_ : w.heap.size ≤ gb193)); have n3_ := q_ ((z91_ : w.heap.size ≤ gb193)); clear HB; have HB := n0_; have BK193 := n1_; have GW193 := n2_; have GE193 := n3_; clear n0_ n1_ n2_ n3_; clear hb hbox hg; obtain ⟨hcz17_0, hcz17_1, hfz17_0, hfz17_1⟩ := cs2_ BK193.out) | (go_at_call 136; (with_reducible refine (impl_isKey.calls ((rd_T147 l0 x7_1).f0) true _ A5.out).mono ?_); rintro e w' ⟨rfl, ⟨nd, rfl⟩⟩; (try first | exact ⟨rfl, _, World.drewN_drewN _ _ _⟩ | exact ⟨rfl, _, Eq.trans (World.drewN_drewN _ _ _) (congrArg (World.drewN _) (Nat.add_assoc _ _ _))⟩)) | (go_at_call 137; (with_reducible refine (impl_isNum.calls ((rd_T147 l0 x7_1).f1) true _ A7.out).mono ?_); rintro e w' ⟨rfl, ⟨nd, rfl⟩⟩; (try first | exact ⟨rfl, _, World.drewN_drewN _ _ _⟩ | exact ⟨rfl, _, Eq.trans (World.drewN_drewN _ _ _) (congrArg (World.drewN _) (Nat.add_assoc _ _ _))⟩); have p196 : 0 ≤ ((ji10) : Int) := of_decide_eq_true z5_; have q196 : (ji10) < (l0.length : Int) := of_decide_eq_true z5_; obtain ⟨ad196, e196, hx196_0, hx196_1⟩ := at_T147 HR0.out (ji10) p196 q196; obtain rfl : ad192 = ad196 := z89_; have hn196_0 : ad192.block ≠ gb193 := Nat.ne_of_lt (Nat.lt_of_lt_of_le (by have := World.block_lt_of_cell? _ _ hx196_0; first | rwa [add_block] at this | exact this) GW193.out); have hn196_1 : ad192.block ≠ gb193 := Nat.ne_of_lt (Nat.lt_of_lt_of_le (by have := World.block_lt_of_cell? _ _ hx196_0; first | rwa [add_block] at this | exact this) GW193.out); replace hx196_0 := up_ HB hx196_0; replace hx196_1 := up_ HB hx196_1; replace hx196_0 := (cell_far (p := ⟨gb193, 0, none⟩) z26_ (.int .i64 ((rd_T147 l0 x7_1).f0))).trans hx196_0; replace hx196_1 := (cell_far (p := ⟨gb193, 0, none⟩) z26_ (.int .i64 ((rd_T147 l0 x7_1).f0))).trans hx196_1; replace hx196_0 := (cell_far (p := ⟨gb193, 1, none⟩) z27_ (.int .i64 ((rd_T147 l0 x7_1).f1))).trans hx196_0; replace hx196_1 := (cell_far (p := ⟨gb193, 1, none⟩) z27_ (.int .i64 ((rd_T147 l0 x7_1).f1))).trans hx196_1; (try have hy196_0 := fun (n_ : Nat) => (show ((((w16.drewN n_).setCell ⟨gb193, 0, none⟩ (.int .i64 ((rd_T147 l0 x7_1).f0))).setCell ⟨gb193, 1, none⟩ (.int .i64 ((rd_T147 l0 x7_1).f1)))).cell? _ = some _ from hx196_0)); (try have hy196_1 := fun (n_ : Nat) => (show ((((w16.drewN n_).setCell ⟨gb193, 0, none⟩ (.int .i64 ((rd_T147 l0 x7_1).f0))).setCell ⟨gb193, 1, none⟩ (.int .i64 ((rd_T147 l0 x7_1).f1)))).cell? _ = some _ from hx196_1)); clear hn196_0; clear hn196_1; replace p196 := eq_true p196; replace q196 := eq_true q196)); try go_wp2_with (first | ((with_reducible refine gate_dst (N := 4) rfl ?_); refine box_event ?hg (N := 4) ?hd (cs := #[.int .i64 0, .int .i64 0]) (t := 147) ?hr ?_; (case hd => rfl); (case hg => rfl); (case hr => exact z108_); intro gb193 hg w16 hbox hb; have n0_ := q_ (below_step z0_ hb); have n1_ := q_ (hbox); have n2_ := q_ ((z91_ : w.heap.size ≤ gb193)); have n3_ := q_ ((z91_ : w.heap.size ≤ gb193)); clear HB; have HB := n0_; have BK193 := n1_; have GW193 := n2_; have GE193 := n3_; clear n0_ n1_ n2_ n3_; clear hb hbox hg; obtain ⟨hcz17_0, hcz17_1, hfz17_0, hfz17_1⟩ := cs2_ BK193.out) | (go_at_call 136; (with_reducible refine (impl_isKey.calls ((rd_T147 l0 x7_1).f0) true _ A5.out).mono ?_); rintro e w' ⟨rfl, ⟨nd, rfl⟩⟩; (try first | exact ⟨rfl, _, World.drewN_drewN _ _ _⟩ | exact ⟨rfl, _, Eq.trans (World.drewN_drewN _ _ _) (congrArg (World.drewN _) (Nat.add_assoc _ _ _))⟩)) | (go_at_call 137; (with_reducible refine (impl_isNum.calls ((rd_T147 l0 x7_1).f1) true _ A7.out).mono ?_); rintro e w' ⟨rfl, ⟨nd, rfl⟩⟩; (try first | exact ⟨rfl, _, World.drewN_drewN _ _ _⟩ | exact ⟨rfl, _, Eq.trans (World.drewN_drewN _ _ _) (congrArg (World.drewN _) (Nat.add_assoc _ _ _))⟩); have p196 : 0 ≤ ((ji10) : Int) := of_decide_eq_true z5_; have q196 : (ji10) < (l0.length : Int) := of_decide_eq_true z5_; obtain ⟨ad196, e196, hx196_0, hx196_1⟩ := at_T147 HR0.out (ji10) p196 q196; obtain rfl : ad192 = ad196 := z89_; have hn196_0 : ad192.block ≠ gb193 := Nat.ne_of_lt (Nat.lt_of_lt_of_le (by have := World.block_lt_of_cell? _ _ hx196_0; first | rwa [add_block] at this | exact this) GW193.out); have hn196_1 : ad192.block ≠ gb193 := Nat.ne_of_lt (Nat.lt_of_lt_of_le (by have := World.block_lt_of_cell? _ _ hx196_0; first | rwa [add_block] at this | exact this) GW193.out); replace hx196_0 := up_ HB hx196_0; replace hx196_1 := up_ HB hx196_1; replace hx196_0 := (cell_far (p := ⟨gb193, 0, none⟩) z26_ (.int .i64 ((rd_T147 l0 x7_1).f0))).trans hx196_0; replace hx196_1 := (cell_far (p := ⟨gb193, 0, none⟩) z26_ (.int .i64 ((rd_T147 l0 x7_1).f0))).trans hx196_1; replace hx196_0 := (cell_far (p := ⟨gb193, 1, none⟩) z27_ (.int .i64 ((rd_T147 l0 x7_1).f1))).trans hx196_0; replace hx196_1 := (cell_far (p := ⟨gb193, 1, none⟩) z27_ (.int .i64 ((rd_T147 l0 x7_1).f1))).trans hx196_1; (try have hy196_0 := fun (n_ : Nat) => (show ((((w16.drewN n_).setCell ⟨gb193, 0, none⟩ (.int .i64 ((rd_T147 l0 x7_1).f0))).setCell ⟨gb193, 1, none⟩ (.int .i64 ((rd_T147 l0 x7_1).f1)))).cell? _ = some _ from hx196_0)); (try have hy196_1 := fun (n_ : Nat) => (show ((((w16.drewN n_).setCell ⟨gb193, 0, none⟩ (.int .i64 ((rd_T147 l0 x7_1).f0))).setCell ⟨gb193, 1, none⟩ (.int .i64 ((rd_T147 l0 x7_1).f1)))).cell? _ = some _ from hx196_1)); clear hn196_0; clear hn196_1; replace p196 := eq_true p196; replace q196 := eq_true q196)))
            go_roundg k1
            case measure => have := HK1.out; omega
            case rel => exact ⟨(wrap64 (x7_1 + 1)), z7_, H', ⟨z67_⟩, ⟨z48_⟩⟩
          ·rw [if_neg c12] at H
           exact absurd H (by simp)
         ·rw [if_neg c11] at H
          exact absurd H (by simp)
        ·rw [if_neg c9] at H
         have c9b0 : decide (0 < x7_1) = false := decide_eq_false c9
         clear c9
         have H' := q_ H
         clear H
         have p192 : 0 ≤ (x7_1 : Int) := of_decide_eq_true z5_
         have q192 : x7_1 < (l0.length : Int) := of_decide_eq_true z5_
         obtain ⟨ad192, e192, hx192_0, hx192_1⟩ := at_T147 HR0.out x7_1 p192 q192
         cases e192
         replace hx192_0 := up_ HB hx192_0
         replace hx192_1 := up_ HB hx192_1
         replace p192 := eq_true p192
         replace q192 := eq_true q192
         go_wp2_with (first | ((with_reducible refine gate_dst (N := 4) rfl ?_); refine box_event ?hg (N := 4) ?hd (cs := #[.int .i64 0, .int .i64 0]) (t := 147) ?hr ?_; (case hd => rfl); (case hg => rfl); (case hr => exact z108_); intro gb193 hg w18 hbox hb; have n0_ := q_ (below_step z0_ hb); have n1_ := q_ (hbox); have n2_ := q_ ((z91_ : w.heap.size ≤ gb193)); have n3_ := q_ ((z91_ : w.heap.size ≤ gb193)); clear HB; have HB := n0_; have BK193 := n1_; have GW193 := n2_; have GE193 := n3_; clear n0_ n1_ n2_ n3_; clear hb hbox hg; obtain ⟨hcz19_0, hcz19_1, hfz19_0, hfz19_1⟩ := cs2_ BK193.out) | (go_at_call 136; (with_reducible refine (impl_isKey.calls ((rd_T147 l0 x7_1).f0) true _ A5.out).mono ?_); rintro e w' ⟨rfl, ⟨nd, rfl⟩⟩; (try first | exact ⟨rfl, _, World.drewN_drewN _ _ _⟩ | exact ⟨rfl, _, Eq.trans (World.drewN_drewN _ _ _) (congrArg (World.drewN _) (Nat.add_assoc _ _ _))⟩)) | (go_at_call 137; (with_reducible refine (impl_isNum.calls ((rd_T147 l0 x7_1).f1) true _ A7.out).mono ?_); rintro e w' ⟨rfl, ⟨nd, rfl⟩⟩; (try first | exact ⟨rfl, _, World.drewN_drewN _ _ _⟩ | exact ⟨rfl, _, Eq.trans (World.drewN_drewN _ _ _) (congrArg (World.drewN _) (Nat.add_assoc _ _ _))⟩)))
         repeat (go_quiet (first | ((with_reducible refine gate_dst (N := 4) rfl ?_); refine box_event ?hg (N := 4) ?hd (cs := #[.int .i64 0, .int .i64 0]) (t := 147) ?hr ?_; (case hd => rfl); (case hg => rfl); (case hr => exact z108_); intro gb193 hg w18 hbox hb; have n0_ := q_ (below_step z0_ hb); have n1_ := q_ (hbox); have n2_ := q_ ((z91_ : w.heap.size ≤ gb193)); have n3_ := q_ ((z91_ : w.heap.size ≤ gb193)); clear HB; have HB := n0_; have BK193 := n1_; have GW193 := n2_; have GE193 := n3_; clear n0_ n1_ n2_ n3_; clear hb hbox hg; obtain ⟨hcz19_0, hcz19_1, hfz19_0, hfz19_1⟩ := cs2_ BK193.out) | (go_at_call 136; (with_reducible refine (impl_isKey.calls ((rd_T147 l0 x7_1).f0) true _ A5.out).mono ?_); rintro e w' ⟨rfl, ⟨nd, rfl⟩⟩; (try first | exact ⟨rfl, _, World.drewN_drewN _ _ _⟩ | exact ⟨rfl, _, Eq.trans (World.drewN_drewN _ _ _) (congrArg (World.drewN _) (Nat.add_assoc _ _ _))⟩)) | (go_at_call 137; (with_reducible refine (impl_isNum.calls ((rd_T147 l0 x7_1).f1) true _ A7.out).mono ?_); rintro e w' ⟨rfl, ⟨nd, rfl⟩⟩; (try first | exact ⟨rfl, _, World.drewN_drewN _ _ _⟩ | exact ⟨rfl, _, Eq.trans (World.drewN_drewN _ _ _) (congrArg (World.drewN _) (Nat.add_assoc _ _ _))⟩))); try go_wp2_with (first | ((with_reducible refine gate_dst (N := 4) rfl ?_); refine box_event ?hg (N := 4) ?hd (cs := #[.int .i64 0, .int .i64 0]) (t := 147) ?hr ?_; (case hd => rfl); (case hg => rfl); (case hr => exact z108_); intro gb193 hg w18 hbox hb; have n0_ := q_ (below_step z0_ hb); have n1_ := q_ (hbox); have n2_ := q_ ((z91_ : w.heap.size ≤ gb193)); have n3_ := q_ ((z91_ : w.heap.size ≤ gb193)); clear HB; have HB := n0_; have BK193 := n1_; have GW193 := n2_; have GE193 := n3_; clear n0_ n1_ n2_ n3_; clear hb hbox hg; obtain ⟨hcz19_0, hcz19_1, hfz19_0, hfz19_1⟩ := cs2_ BK193.out) | (go_at_call 136; (with_reducible refine (impl_isKey.calls ((rd_T147 l0 x7_1).f0) true _ A5.out).mono ?_); rintro e w' ⟨rfl, ⟨nd, rfl⟩⟩; (try first | exact ⟨rfl, _, World.drewN_drewN _ _ _⟩ | exact ⟨rfl, _, Eq.trans (World.drewN_drewN _ _ _) (congrArg (World.drewN _) (Nat.add_assoc _ _ _))⟩)) | (go_at_call 137; (with_reducible refine (impl_isNum.calls ((rd_T147 l0 x7_1).f1) true _ A7.out).mono ?_); rintro e w' ⟨rfl, ⟨nd, rfl⟩⟩; (try first | exact ⟨rfl, _, World.drewN_drewN _ _ _⟩ | exact ⟨rfl, _, Eq.trans (World.drewN_drewN _ _ _) (congrArg (World.drewN _) (Nat.add_assoc _ _ _))⟩))))
         go_roundg k1
         case measure => have := HK1.out; omega
         case rel => exact ⟨(wrap64 (x7_1 + 1)), z7_, H', ⟨z67_⟩, ⟨z48_⟩⟩
       ·replace c8 := Bool.eq_false_iff.mpr c8
        subst c8
        have H1 : (some false) = some r := by rw [if_neg (show ¬ (false = true) by decide)] at H; exact H
        clear H
        have H := H1
        clear H1
        obtain rfl := Option.some.inj H
        have p192 : 0 ≤ (x7_1 : Int) := of_decide_eq_true z5_
        have q192 : x7_1 < (l0.length : Int) := of_decide_eq_true z5_
        obtain ⟨ad192, e192, hx192_0, hx192_1⟩ := at_T147 HR0.out x7_1 p192 q192
        cases e192
        replace hx192_0 := up_ HB hx192_0
        replace hx192_1 := up_ HB hx192_1
        replace p192 := eq_true p192
        replace q192 := eq_true q192
        go_wp2_with (first | ((with_reducible refine gate_dst (N := 4) rfl ?_); refine box_event ?hg (N := 4) ?hd (cs := #[.int .i64 0, .int .i64 0]) (t := 147) ?hr ?_; (case hd => rfl); (case hg => rfl); (case hr => exact z108_); intro gb193 hg w20 hbox hb; have n0_ := q_ (below_step z0_ hb); have n1_ := q_ (hbox); have n2_ := q_ ((z91_ : w.heap.size ≤ gb193)); have n3_ := q_ ((z91_ : w.heap.size ≤ gb193)); clear HB; have HB := n0_; have BK193 := n1_; have GW193 := n2_; have GE193 := n3_; clear n0_ n1_ n2_ n3_; clear hb hbox hg; obtain ⟨hcz21_0, hcz21_1, hfz21_0, hfz21_1⟩ := cs2_ BK193.out) | (go_at_call 136; (with_reducible refine (impl_isKey.calls ((rd_T147 l0 x7_1).f0) true _ A5.out).mono ?_); rintro e w' ⟨rfl, ⟨nd, rfl⟩⟩; (try first | exact ⟨rfl, _, World.drewN_drewN _ _ _⟩ | exact ⟨rfl, _, Eq.trans (World.drewN_drewN _ _ _) (congrArg (World.drewN _) (Nat.add_assoc _ _ _))⟩)) | (go_at_call 137; (with_reducible refine (impl_isNum.calls ((rd_T147 l0 x7_1).f1) false _ A7.out).mono ?_); rintro e w' ⟨rfl, ⟨nd, rfl⟩⟩; (try first | exact ⟨rfl, _, World.drewN_drewN _ _ _⟩ | exact ⟨rfl, _, Eq.trans (World.drewN_drewN _ _ _) (congrArg (World.drewN _) (Nat.add_assoc _ _ _))⟩)))
        repeat (go_quiet (first | ((with_reducible refine gate_dst (N := 4) rfl ?_); refine box_event ?hg (N := 4) ?hd (cs := #[.int .i64 0, .int .i64 0]) (t := 147) ?hr ?_; (case hd => rfl); (case hg => rfl); (case hr => exact z108_); intro gb193 hg w20 hbox hb; have n0_ := q_ (below_step z0_ hb); have n1_ := q_ (hbox); have n2_ := q_ ((z91_ : w.heap.size ≤ gb193)); have n3_ := q_ ((z91_ : w.heap.size ≤ gb193)); clear HB; have HB := n0_; have BK193 := n1_; have GW193 := n2_; have GE193 := n3_; clear n0_ n1_ n2_ n3_; clear hb hbox hg; obtain ⟨hcz21_0, hcz21_1, hfz21_0, hfz21_1⟩ := cs2_ BK193.out) | (go_at_call 136; (with_reducible refine (impl_isKey.calls ((rd_T147 l0 x7_1).f0) true _ A5.out).mono ?_); rintro e w' ⟨rfl, ⟨nd, rfl⟩⟩; (try first | exact ⟨rfl, _, World.drewN_drewN _ _ _⟩ | exact ⟨rfl, _, Eq.trans (World.drewN_drewN _ _ _) (congrArg (World.drewN _) (Nat.add_assoc _ _ _))⟩)) | (go_at_call 137; (with_reducible refine (impl_isNum.calls ((rd_T147 l0 x7_1).f1) false _ A7.out).mono ?_); rintro e w' ⟨rfl, ⟨nd, rfl⟩⟩; (try first | exact ⟨rfl, _, World.drewN_drewN _ _ _⟩ | exact ⟨rfl, _, Eq.trans (World.drewN_drewN _ _ _) (congrArg (World.drewN _) (Nat.add_assoc _ _ _))⟩))); try go_wp2_with (first | ((with_reducible refine gate_dst (N := 4) rfl ?_); refine box_event ?hg (N := 4) ?hd (cs := #[.int .i64 0, .int .i64 0]) (t := 147) ?hr ?_; (case hd => rfl); (case hg => rfl); (case hr => exact z108_); intro gb193 hg w20 hbox hb; have n0_ := q_ (below_step z0_ hb); have n1_ := q_ (hbox); have n2_ := q_ ((z91_ : w.heap.size ≤ gb193)); have n3_ := q_ ((z91_ : w.heap.size ≤ gb193)); clear HB; have HB := n0_; have BK193 := n1_; have GW193 := n2_; have GE193 := n3_; clear n0_ n1_ n2_ n3_; clear hb hbox hg; obtain ⟨hcz21_0, hcz21_1, hfz21_0, hfz21_1⟩ := cs2_ BK193.out) | (go_at_call 136; (with_reducible refine (impl_isKey.calls ((rd_T147 l0 x7_1).f0) true _ A5.out).mono ?_); rintro e w' ⟨rfl, ⟨nd, rfl⟩⟩; (try first | exact ⟨rfl, _, World.drewN_drewN _ _ _⟩ | exact ⟨rfl, _, Eq.trans (World.drewN_drewN _ _ _) (congrArg (World.drewN _) (Nat.add_assoc _ _ _))⟩)) | (go_at_call 137; (with_reducible refine (impl_isNum.calls ((rd_T147 l0 x7_1).f1) false _ A7.out).mono ?_); rintro e w' ⟨rfl, ⟨nd, rfl⟩⟩; (try first | exact ⟨rfl, _, World.drewN_drewN _ _ _⟩ | exact ⟨rfl, _, Eq.trans (World.drewN_drewN _ _ _) (congrArg (World.drewN _) (Nat.add_assoc _ _ _))⟩))))
        go_ret
        exact ⟨z4_, z48_⟩
      ·replace c6 := Bool.eq_false_iff.mpr c6
       subst c6
       have H1 : (some false) = some r := by rw [if_neg (show ¬ (false = true) by decide)] at H; exact H
       clear H
       have H := H1
       clear H1
       obtain rfl := Option.some.inj H
       have p192 : 0 ≤ (x7_1 : Int) := of_decide_eq_true z5_
       have q192 : x7_1 < (l0.length : Int) := of_decide_eq_true z5_
       obtain ⟨ad192, e192, hx192_0, hx192_1⟩ := at_T147 HR0.out x7_1 p192 q192
       cases e192
       replace hx192_0 := up_ HB hx192_0
       replace hx192_1 := up_ HB hx192_1
       replace p192 := eq_true p192
       replace q192 := eq_true q192
       go_wp2_with (first | ((with_reducible refine gate_dst (N := 4) rfl ?_); refine box_event ?hg (N := 4) ?hd (cs := #[.int .i64 0, .int .i64 0]) (t := 147) ?hr ?_; (case hd => rfl); (case hg => rfl); (case hr => exact z108_); intro gb193 hg w22 hbox hb; have n0_ := q_ (below_step z0_ hb); have n1_ := q_ (hbox); have n2_ := q_ ((z91_ : w.heap.size ≤ gb193)); have n3_ := q_ ((z91_ : w.heap.size ≤ gb193)); clear HB; have HB := n0_; have BK193 := n1_; have GW193 := n2_; have GE193 := n3_; clear n0_ n1_ n2_ n3_; clear hb hbox hg; obtain ⟨hcz23_0, hcz23_1, hfz23_0, hfz23_1⟩ := cs2_ BK193.out) | (go_at_call 136; (with_reducible refine (impl_isKey.calls ((rd_T147 l0 x7_1).f0) false _ A5.out).mono ?_); rintro e w' ⟨rfl, ⟨nd, rfl⟩⟩; (try first | exact ⟨rfl, _, World.drewN_drewN _ _ _⟩ | exact ⟨rfl, _, Eq.trans (World.drewN_drewN _ _ _) (congrArg (World.drewN _) (Nat.add_assoc _ _ _))⟩)))
       repeat (go_quiet (first | ((with_reducible refine gate_dst (N := 4) rfl ?_); refine box_event ?hg (N := 4) ?hd (cs := #[.int .i64 0, .int .i64 0]) (t := 147) ?hr ?_; (case hd => rfl); (case hg => rfl); (case hr => exact z108_); intro gb193 hg w22 hbox hb; have n0_ := q_ (below_step z0_ hb); have n1_ := q_ (hbox); have n2_ := q_ ((z91_ : w.heap.size ≤ gb193)); have n3_ := q_ ((z91_ : w.heap.size ≤ gb193)); clear HB; have HB := n0_; have BK193 := n1_; have GW193 := n2_; have GE193 := n3_; clear n0_ n1_ n2_ n3_; clear hb hbox hg; obtain ⟨hcz23_0, hcz23_1, hfz23_0, hfz23_1⟩ := cs2_ BK193.out) | (go_at_call 136; (with_reducible refine (impl_isKey.calls ((rd_T147 l0 x7_1).f0) false _ A5.out).mono ?_); rintro e w' ⟨rfl, ⟨nd, rfl⟩⟩; (try first | exact ⟨rfl, _, World.drewN_drewN _ _ _⟩ | exact ⟨rfl, _, Eq.trans (World.drewN_drewN _ _ _) (congrArg (World.drewN _) (Nat.add_assoc _ _ _))⟩))); try go_wp2_with (first | ((with_reducible refine gate_dst (N := 4) rfl ?_); refine box_event ?hg (N := 4) ?hd (cs := #[.int .i64 0, .int .i64 0]) (t := 147) ?hr ?_; (case hd => rfl); (case hg => rfl); (case hr => exact z108_); intro gb193 hg w22 hbox hb; have n0_ := q_ (below_step z0_ hb); have n1_ := q_ (hbox); have n2_ := q_ ((z91_ : w.heap.size ≤ gb193)); have n3_ := q_ ((z91_ : w.heap.size ≤ gb193)); clear HB; have HB := n0_; have BK193 := n1_; have GW193 := n2_; have GE193 := n3_; clear n0_ n1_ n2_ n3_; clear hb hbox hg; obtain ⟨hcz23_0, hcz23_1, hfz23_0, hfz23_1⟩ := cs2_ BK193.out) | (go_at_call 136; (with_reducible refine (impl_isKey.calls ((rd_T147 l0 x7_1).f0) false _ A5.out).mono ?_); rintro e w' ⟨rfl, ⟨nd, rfl⟩⟩; (try first | exact ⟨rfl, _, World.drewN_drewN _ _ _⟩ | exact ⟨rfl, _, Eq.trans (World.drewN_drewN _ _ _) (congrArg (World.drewN _) (Nat.add_assoc _ _ _))⟩))))
       go_ret
       exact ⟨z4_, z48_⟩
     ·rw [if_neg c4] at H
      exact absurd H (by simp)
    ·rw [if_neg c3] at H
     exact absurd H (by simp)
   ·rw [if_neg c2] at H
    have c2b0 : decide (x7_1 < (l0.length : Int)) = false := decide_eq_false c2
    clear c2
    obtain rfl := Option.some.inj H
    go_wp2
    repeat (go_quiet (fail); try go_wp2)
    go_ret
    exact ⟨z4_, z0_⟩

end Go.Proofs.Ytphlmbhjeoljoaa.PFnMapAll
