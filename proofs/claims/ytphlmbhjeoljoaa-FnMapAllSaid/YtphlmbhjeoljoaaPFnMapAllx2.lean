-- Written by a program of this session, which goes by the kit's print. Not trusted: Lean checks it.
import Derived.Test.YtphlmbhjeoljoaaPFnMapAllx0
import Derived.Test.YtphlmbhjeoljoaaPFnMapAllx1
namespace Go.Proofs.Ytphlmbhjeoljoaa.PFnMapAll
open Go.RowKit Go.Proofs.YtphlmbhjeoljoaaW.PrintWords Go.Proofs.YtphlmbhjeoljoaaW.PrintLast Go.Proofs.YtphlmbhjeoljoaaW.PrintMore
attribute [local go_sem] max2_int min2_int max_two min_two max_three min_three max_four min_four   -- for this text's walks alone
set_option linter.unusedVariables false
set_option linter.unusedSimpArgs false

attribute [local go_sem high] eqA147
/-! ### laws_big: function 34 -/
def laws_big.f (l0 : List Int) : Option (Bool) := some (decide ((l0.length : Int) > 1048576))
set_option maxHeartbeats 8000000 in
set_option maxRecDepth 100000 in
theorem laws_big.calls (A0 : Option Addr) (c0 : Nat) (l0 : List Int) (r : Bool) (w : World) (hr0 : Kd.C (Kd.int .u8) w A0 l0.length l0) (hc0 : l0.length ≤ c0) (h : laws_big.f l0 = some r) :
  Calls Try.prog 34 #[.slice A0 l0.length c0] w fun e w' => e = .returned (.bool r) ∧ Drawn0 w w' := by
 have HR0 := q_ hr0
 have HC0 := q_ hc0
 clear hr0 hc0
 have H : (some (decide ((l0.length : Int) > 1048576))) = some r := h
 clear h
 obtain rfl := Option.some.inj H
 go_enter Try.func34, Try.ntmps34
 go_wp2
 go_ret
 exact ⟨z7_, z31_⟩

/-! ### laws_samePairs: function 56 -/
def laws_samePairs.l0 : Nat → List (S147) → List (S147) → Int → Option (Bool)
 | 0, _, _, _ => none
 | k + 1, x0, x1, x5 => if x5 < (x0.length : Int) then (if 0 ≤ x5 then (if x5 < (x1.length : Int) then (if (!(((rd_T147 x0 x5).f0) == ((rd_T147 x1 x5).f0)) || (!(((rd_T147 x0 x5).f1) == ((rd_T147 x1 x5).f1)))) = true then (some false) else (laws_samePairs.l0 k x0 x1 (wrap64 (x5 + 1)))) else (none)) else (none)) else (some true)
def laws_samePairs.f (k : Nat) (l0 : List (S147)) (l1 : List (S147)) : Option (Bool) := if (l0.length : Int) = (l1.length : Int) then (laws_samePairs.l0 k l0 l1 0) else (some false)
theorem laws_samePairs.mono_l : ∀ k, (∀ y0 y1 y2, LeO (laws_samePairs.l0 k y0 y1 y2) (laws_samePairs.l0 (k + 1) y0 y1 y2))
 | 0 => fun _ _ _ r h => by simp [laws_samePairs.l0] at h
 | k + 1 => by
  have ih0 := laws_samePairs.mono_l k
  ·intro y0 y1 y2
   unfold laws_samePairs.l0
   repeat' first
   | (with_reducible exact ih0 _ _ _)
   | (with_reducible exact LeO.refl _)
   | (with_reducible exact LeO.none _)
   | (with_reducible refine LeO.ite ?_ ?_)
   | (with_reducible refine LeO.bind ?_ (fun _ => ?_))
   | exact ih0 _ _ _
   | exact LeO.none _
   | refine LeO.ite ?_ ?_
   | refine LeO.bind ?_ (fun _ => ?_)
theorem laws_samePairs.mono : ∀ a0 a1 k, LeO (laws_samePairs.f k a0 a1) (laws_samePairs.f (k + 1) a0 a1) := by
 intro a0 a1 k
 have ih0 := laws_samePairs.mono_l k
 unfold laws_samePairs.f
 repeat' first
   | (with_reducible exact ih0 _ _ _)
   | (with_reducible exact LeO.refl _)
   | (with_reducible exact LeO.none _)
   | (with_reducible refine LeO.ite ?_ ?_)
   | (with_reducible refine LeO.bind ?_ (fun _ => ?_))
   | exact ih0 _ _ _
   | exact LeO.none _
   | refine LeO.ite ?_ ?_
   | refine LeO.bind ?_ (fun _ => ?_)
set_option maxHeartbeats 8000000 in
set_option maxRecDepth 100000 in
theorem laws_samePairs.calls (k : Nat) (A0 : Option Addr) (c0 : Nat) (l0 : List (S147)) (A1 : Option Addr) (c1 : Nat) (l1 : List (S147)) (r : Bool) (w : World) (hr0 : Kd.C k147 w A0 l0.length l0) (hc0 : l0.length ≤ c0) (hr1 : Kd.C k147 w A1 l1.length l1) (hc1 : l1.length ≤ c1) (h : laws_samePairs.f k l0 l1 = some r) :
  Calls Try.prog 56 #[.slice A0 l0.length c0, .slice A1 l1.length c1] w fun e w' => e = .returned (.bool r) ∧ Drawn0 w w' := by
 have hu147 := Try.underlying147
 have HR0 := q_ hr0
 have HC0 := q_ hc0
 clear hr0 hc0
 have HR1 := q_ hr1
 have HC1 := q_ hc1
 clear hr1 hc1
 have H : (if (l0.length : Int) = (l1.length : Int) then (laws_samePairs.l0 k l0 l1 0) else (some false)) = some r := h
 clear h
 by_cases c3 : (l0.length : Int) = (l1.length : Int)
 ·rw [if_pos c3] at H
  have c3b0 : ((l0.length : Int) == (l1.length : Int)) = true := beq_iff_eq.mpr c3
  have c3b1 : ((l0.length : Int) != (l1.length : Int)) = false := bne_eq_false_iff_eq.mpr c3
  have c3b2 : (l0.length == l1.length) = true := by first | simpa using c3 | (simp at c3 ⊢; omega)
  clear c3
  have H' := q_ H
  clear H
  go_enter Try.func56, Try.ntmps56
  go_wp2
  repeat (go_quiet (fail); try go_wp2)
  go_loopg [5] k (fun kq v5 w' => ∃ (x5_1 : Int), v5 = .int .i64 x5_1 ∧ Aside0 (laws_samePairs.l0 kq l0 l1 x5_1 = some r) ∧ Aside0 (kq ≤ k) ∧ Drawn0 w w')
  case atStart => exact ⟨(0), z7_, H', ⟨Nat.le_refl _⟩, z31_⟩
  case round =>
   clear H'
   try clear c1
   try clear p2
   try clear c3
   try clear c3b0
   try clear c3b1
   try clear c3b2
   obtain ⟨x5_1, rfl, HA, HK1, ⟨m1, rfl⟩⟩ := hrel
   cases gk with
   | zero => exact absurd HA.out (by simp [laws_samePairs.l0])
   | succ k1 =>
    have H := HA.out
    clear HA
    simp only [laws_samePairs.l0] at H
    by_cases c4 : x5_1 < (l0.length : Int)
    ·rw [if_pos c4] at H
     have c4b0 : decide (x5_1 < (l0.length : Int)) = true := decide_eq_true c4
     clear c4
     by_cases c5 : 0 ≤ x5_1
     ·rw [if_pos c5] at H
      have c5b0 : decide (0 ≤ x5_1) = true := decide_eq_true c5
      clear c5
      by_cases c6 : x5_1 < (l1.length : Int)
      ·rw [if_pos c6] at H
       have c6b0 : decide (x5_1 < (l1.length : Int)) = true := decide_eq_true c6
       clear c6
       by_cases c7 : (!(((rd_T147 l0 x5_1).f0) == ((rd_T147 l1 x5_1).f0)) || (!(((rd_T147 l0 x5_1).f1) == ((rd_T147 l1 x5_1).f1)))) = true
       ·rw [if_pos c7] at H
        have c7b0 : (!(((rd_T147 l0 x5_1).f0) == ((rd_T147 l1 x5_1).f0)) || (!(((rd_T147 l0 x5_1).f1) == ((rd_T147 l1 x5_1).f1)))) = true := c7
        clear c7
        obtain rfl := Option.some.inj H
        have p101 : 0 ≤ (x5_1 : Int) := of_decide_eq_true z5_
        have q101 : x5_1 < (l0.length : Int) := of_decide_eq_true z5_
        obtain ⟨ad101, e101, hx101_0, hx101_1⟩ := at_T147 HR0.out x5_1 p101 q101
        cases e101
        replace p101 := eq_true p101
        replace q101 := eq_true q101
        have p102 : 0 ≤ (x5_1 : Int) := of_decide_eq_true z5_
        have q102 : x5_1 < (l1.length : Int) := of_decide_eq_true z5_
        obtain ⟨ad102, e102, hx102_0, hx102_1⟩ := at_T147 HR1.out x5_1 p102 q102
        cases e102
        replace p102 := eq_true p102
        replace q102 := eq_true q102
        go_wp2
        repeat (go_quiet (fail); try go_wp2)
        go_ret
        exact ⟨z7_, z31_⟩
       ·rw [if_neg c7] at H
        have c7b0 : (!(((rd_T147 l0 x5_1).f0) == ((rd_T147 l1 x5_1).f0)) || (!(((rd_T147 l0 x5_1).f1) == ((rd_T147 l1 x5_1).f1)))) = false := by simpa using c7
        clear c7
        have H' := q_ H
        clear H
        have p101 : 0 ≤ (x5_1 : Int) := of_decide_eq_true z5_
        have q101 : x5_1 < (l0.length : Int) := of_decide_eq_true z5_
        obtain ⟨ad101, e101, hx101_0, hx101_1⟩ := at_T147 HR0.out x5_1 p101 q101
        cases e101
        replace p101 := eq_true p101
        replace q101 := eq_true q101
        have p102 : 0 ≤ (x5_1 : Int) := of_decide_eq_true z5_
        have q102 : x5_1 < (l1.length : Int) := of_decide_eq_true z5_
        obtain ⟨ad102, e102, hx102_0, hx102_1⟩ := at_T147 HR1.out x5_1 p102 q102
        cases e102
        replace p102 := eq_true p102
        replace q102 := eq_true q102
        go_wp2
        repeat (go_quiet (fail); try go_wp2)
        go_roundg k1
        case measure => have := HK1.out; omega
        case rel => exact ⟨(wrap64 (x5_1 + 1)), z7_, H', ⟨z67_⟩, z31_⟩
      ·rw [if_neg c6] at H
       exact absurd H (by simp)
     ·rw [if_neg c5] at H
      exact absurd H (by simp)
    ·rw [if_neg c4] at H
     have c4b0 : decide (x5_1 < (l0.length : Int)) = false := decide_eq_false c4
     clear c4
     obtain rfl := Option.some.inj H
     go_wp2
     repeat (go_quiet (fail); try go_wp2)
     go_ret
     exact ⟨z7_, z31_⟩
 ·rw [if_neg c3] at H
  have c3b0 : ((l0.length : Int) == (l1.length : Int)) = false := beq_eq_false_iff_ne.mpr c3
  have c3b1 : ((l0.length : Int) != (l1.length : Int)) = true := bne_iff_ne.mpr c3
  have c3b2 : (l0.length == l1.length) = false := by first | simpa using c3 | (simp at c3 ⊢; omega)
  obtain rfl := Option.some.inj H
  go_enter Try.func56, Try.ntmps56
  go_wp2
  repeat (go_quiet (fail); try go_wp2)
  go_ret
  exact ⟨z7_, z31_⟩

/-! ### impl_pairAt_f1: function 178 -/
def impl_pairAt_f1.f (a0_0 : Int) (a0_1 : Int) (a28_0 : Int) : Option (Bool) := some (a0_0 == a28_0)
set_option maxHeartbeats 8000000 in
set_option maxRecDepth 100000 in
theorem impl_pairAt_f1.calls (a0_0 : Int) (a0_1 : Int) (gc28 : Nat) (a28_0 : Int) (r : Bool) (w : World) (hb28 : w.heap[gc28]? = some (.cells #[.int .i64 a28_0] 3 (0, 0))) (h : impl_pairAt_f1.f a0_0 a0_1 a28_0 = some r) :
  Calls Try.prog 178 #[.agg #[.int .i64 a0_0, .int .i64 a0_1], .pointer (some ⟨gc28, 0, none⟩)] w fun e w' => e = .returned (.bool r) ∧ Below w.heap.size w w' := by
 have hu147 := Try.underlying147
 have BK28 := q_ hb28
 clear hb28
 have HB := q_ (Below.refl w.heap.size w)
 have H : (some (a0_0 == a28_0)) = some r := h
 clear h
 obtain rfl := Option.some.inj H
 go_enter Try.func178, Try.ntmps178
 go_wp2_with (first | ((with_reducible refine gate_dst (N := 2) rfl ?_); refine box_event ?hg (N := 2) ?hd (cs := #[.int .i64 a0_0, .int .i64 a0_1]) (t := 147) ?hr ?_; (case hd => rfl); (case hg => rfl); (case hr => exact z108_); intro gb103 hg w3 hbox hb; have n0_ := q_ (blk_below (g := gc28) (o := .cells #[.int .i64 a28_0] 3 (0, 0)) z50_ hb); have n1_ := q_ (below_step z25_ hb); have n2_ := q_ (hbox); have n3_ := q_ ((by rw [hg]; exact (below_size z25_) : w.heap.size ≤ gb103)); have n4_ := q_ ((by rw [hg]; exact (below_size z25_) : w.heap.size ≤ gb103)); have n5_ := q_ ((by rw [hg]; exact Nat.ne_of_lt (blk_lt (g := gc28) (o := .cells #[.int .i64 a28_0] 3 (0, 0)) z50_) : gc28 ≠ gb103)); have n6_ := q_ ((by rw [hg]; exact Nat.ne_of_gt (blk_lt (g := gc28) (o := .cells #[.int .i64 a28_0] 3 (0, 0)) z50_) : gb103 ≠ gc28)); clear BK28; clear HB; have BK28 := n0_; have HB := n1_; have BK103 := n2_; have GW103 := n3_; have GE103 := n4_; have NB28_103 := n5_; have NB103_28 := n6_; clear n0_ n1_ n2_ n3_ n4_ n5_ n6_; clear hb hbox hg; have hnb4 := NB103_28.out; have hnc4 := NB28_103.out; obtain ⟨hcz5_0, hcz5_1, hfz5_0, hfz5_1⟩ := cs2_ BK103.out; have hcz6_0 : w3.cell? ⟨gc28, 0, none⟩ = some (.int .i64 a28_0) := (blk_cell BK28.out 0).trans rfl; have hfz6_0 := blk_frozen BK28.out 0))
 go_ret
 exact ⟨z4_, by repeat (first | (with_reducible first | exact HB.out | apply below_alloc | apply pw_below_drewN | apply below_drew1 | refine below_set ?_ GE28.out | refine below_set ?_ GE103.out) | exact HB.out)⟩

/-! ### slices_IndexFunc_Pair_178: function 177 -/
def slices_IndexFunc_Pair_178.l0 : Nat → List (S147) → Int → Int → Int → Option (Int)
 | 0, _, _, _, _ => none
 | k + 1, x0, x7, x8, x29000 => if x8 < x7 then (if 0 ≤ x8 then (if x8 < (x0.length : Int) then ((impl_pairAt_f1.f ((rd_T147 x0 x8).f0) ((rd_T147 x0 x8).f1) x29000).bind fun t105 => (if t105 = true then (some x8) else (slices_IndexFunc_Pair_178.l0 k x0 x7 (wrap64 (x8 + 1)) x29000))) else (none)) else (none)) else (some (-1))
def slices_IndexFunc_Pair_178.f (k : Nat) (l0 : List (S147)) (a28_0 : Int) : Option (Int) := slices_IndexFunc_Pair_178.l0 k l0 (l0.length : Int) 0 a28_0
theorem slices_IndexFunc_Pair_178.mono_l : ∀ k, (∀ y0 y1 y2 y3, LeO (slices_IndexFunc_Pair_178.l0 k y0 y1 y2 y3) (slices_IndexFunc_Pair_178.l0 (k + 1) y0 y1 y2 y3))
 | 0 => fun _ _ _ _ r h => by simp [slices_IndexFunc_Pair_178.l0] at h
 | k + 1 => by
  have ih0 := slices_IndexFunc_Pair_178.mono_l k
  ·intro y0 y1 y2 y3
   unfold slices_IndexFunc_Pair_178.l0
   repeat' first
   | (with_reducible exact ih0 _ _ _ _)
   | (with_reducible exact LeO.refl _)
   | (with_reducible exact LeO.none _)
   | (with_reducible refine LeO.ite ?_ ?_)
   | (with_reducible refine LeO.bind ?_ (fun _ => ?_))
   | exact ih0 _ _ _ _
   | exact LeO.none _
   | refine LeO.ite ?_ ?_
   | refine LeO.bind ?_ (fun _ => ?_)
theorem slices_IndexFunc_Pair_178.mono : ∀ a0 a1 k, LeO (slices_IndexFunc_Pair_178.f k a0 a1) (slices_IndexFunc_Pair_178.f (k + 1) a0 a1) := by
 intro a0 a1 k
 have ih0 := slices_IndexFunc_Pair_178.mono_l k
 unfold slices_IndexFunc_Pair_178.f
 repeat' first
   | (with_reducible exact ih0 _ _ _ _)
   | (with_reducible exact LeO.refl _)
   | (with_reducible exact LeO.none _)
   | (with_reducible refine LeO.ite ?_ ?_)
   | (with_reducible refine LeO.bind ?_ (fun _ => ?_))
   | exact ih0 _ _ _ _
   | exact LeO.none _
   | refine LeO.ite ?_ ?_
   | refine LeO.bind ?_ (fun _ => ?_)
set_option maxHeartbeats 8000000 in
set_option maxRecDepth 100000 in
theorem slices_IndexFunc_Pair_178.calls (k : Nat) (A0 : Option Addr) (c0 : Nat) (l0 : List (S147)) (gc28 : Nat) (a28_0 : Int) (r : Int) (w : World) (hr0 : Kd.C k147 w A0 l0.length l0) (hc0 : l0.length ≤ c0) (hb28 : w.heap[gc28]? = some (.cells #[.int .i64 a28_0] 3 (0, 0))) (h : slices_IndexFunc_Pair_178.f k l0 a28_0 = some r) :
  Calls Try.prog 177 #[.slice A0 l0.length c0, .func (.func 178) #[] #[.pointer (some ⟨gc28, 0, none⟩)]] w fun e w' => e = .returned (.int .i64 r) ∧ Below w.heap.size w w' := by
 have hu147 := Try.underlying147
 have HR0 := q_ hr0
 have HC0 := q_ hc0
 clear hr0 hc0
 have BK28 := q_ hb28
 clear hb28
 have HB := q_ (Below.refl w.heap.size w)
 have H : (slices_IndexFunc_Pair_178.l0 k l0 (l0.length : Int) 0 a28_0) = some r := h
 clear h
 have H' := q_ H
 clear H
 go_enter Try.func177, Try.ntmps177
 go_wp2
 go_loopg [8] k (fun kq v8 w' => ∃ (x8_1 : Int), v8 = .int .i64 x8_1 ∧ Aside0 (slices_IndexFunc_Pair_178.l0 kq l0 (l0.length : Int) x8_1 a28_0 = some r) ∧ Aside0 (kq ≤ k) ∧ Aside0 (w'.heap[gc28]? = some (.cells #[.int .i64 a28_0] 3 (0, 0))) ∧ Aside0 (Below w.heap.size w w'))
 case atStart => exact ⟨(0), z7_, H', ⟨Nat.le_refl _⟩, ⟨z50_⟩, ⟨z25_⟩⟩
 case round =>
  clear H'
  try clear c1
  try clear c2
  try clear p2
  obtain ⟨x8_1, rfl, HA, HK1, BK28, HB⟩ := hrel
  cases gk with
  | zero => exact absurd HA.out (by simp [slices_IndexFunc_Pair_178.l0])
  | succ k1 =>
   have H := HA.out
   clear HA
   simp only [slices_IndexFunc_Pair_178.l0] at H
   by_cases c3 : x8_1 < (l0.length : Int)
   ·rw [if_pos c3] at H
    have c3b0 : decide (x8_1 < (l0.length : Int)) = true := decide_eq_true c3
    clear c3
    by_cases c4 : 0 ≤ x8_1
    ·rw [if_pos c4] at H
     have c4b0 : decide (0 ≤ x8_1) = true := decide_eq_true c4
     clear c4
     by_cases c5 : x8_1 < (l0.length : Int)
     ·rw [if_pos c5] at H
      have c5b0 : decide (x8_1 < (l0.length : Int)) = true := decide_eq_true c5
      clear c5
      replace H := Option.bind_eq_some_iff.mp H
      obtain ⟨t105, A60, H⟩ := H
      replace H : (if t105 = true then (some x8_1) else (slices_IndexFunc_Pair_178.l0 k1 l0 (l0.length : Int) (wrap64 (x8_1 + 1)) a28_0)) = some r := H
      have A6 := q_ A60
      clear A60
      by_cases c7 : t105 = true
      ·subst c7
       have H1 : (some x8_1) = some r := z51_
       clear H
       have H := H1
       clear H1
       obtain rfl := Option.some.inj H
       have p104 : 0 ≤ (x8_1 : Int) := of_decide_eq_true z5_
       have q104 : x8_1 < (l0.length : Int) := of_decide_eq_true z5_
       obtain ⟨ad104, e104, hx104_0, hx104_1⟩ := at_T147 HR0.out x8_1 p104 q104
       cases e104
       replace hx104_0 := up_ HB hx104_0
       replace hx104_1 := up_ HB hx104_1
       replace p104 := eq_true p104
       replace q104 := eq_true q104
       go_wp2_with (first | (go_at_call 178; refine calls_of_args (args' := #[.agg #[.int .i64 ((rd_T147 l0 x8_1).f0), .int .i64 ((rd_T147 l0 x8_1).f1)], .pointer (some ⟨gc28, 0, none⟩)]) z90_ ?_; (with_reducible refine (impl_pairAt_f1.calls ((rd_T147 l0 x8_1).f0) ((rd_T147 l0 x8_1).f1) gc28 a28_0 true _ ?side1 A6.out).mono ?_); (case side1 => exact z137_); rintro e w8 ⟨rfl, hb⟩; have n0_ := q_ (blk_below (g := gc28) (o := .cells #[.int .i64 a28_0] 3 (0, 0)) z50_ hb); have n1_ := q_ (below_step z25_ hb); clear BK28; clear HB; have BK28 := n0_; have HB := n1_; clear n0_ n1_; (try clear hb); (try clear hb2); (try clear hk); (try clear hi)))
       go_ret
       exact ⟨z4_, z25_⟩
      ·replace c7 := Bool.eq_false_iff.mpr c7
       subst c7
       have H1 : (slices_IndexFunc_Pair_178.l0 k1 l0 (l0.length : Int) (wrap64 (x8_1 + 1)) a28_0) = some r := by rw [if_neg (show ¬ (false = true) by decide)] at H; exact H
       clear H
       have H := H1
       clear H1
       have H' := q_ H
       clear H
       have p104 : 0 ≤ (x8_1 : Int) := of_decide_eq_true z5_
       have q104 : x8_1 < (l0.length : Int) := of_decide_eq_true z5_
       obtain ⟨ad104, e104, hx104_0, hx104_1⟩ := at_T147 HR0.out x8_1 p104 q104
       cases e104
       replace hx104_0 := up_ HB hx104_0
       replace hx104_1 := up_ HB hx104_1
       replace p104 := eq_true p104
       replace q104 := eq_true q104
       go_wp2_with (first | (go_at_call 178; refine calls_of_args (args' := #[.agg #[.int .i64 ((rd_T147 l0 x8_1).f0), .int .i64 ((rd_T147 l0 x8_1).f1)], .pointer (some ⟨gc28, 0, none⟩)]) z90_ ?_; (with_reducible refine (impl_pairAt_f1.calls ((rd_T147 l0 x8_1).f0) ((rd_T147 l0 x8_1).f1) gc28 a28_0 false _ ?side1 A6.out).mono ?_); (case side1 => exact z137_); rintro e w9 ⟨rfl, hb⟩; have n0_ := q_ (blk_below (g := gc28) (o := .cells #[.int .i64 a28_0] 3 (0, 0)) z50_ hb); have n1_ := q_ (below_step z25_ hb); clear BK28; clear HB; have BK28 := n0_; have HB := n1_; clear n0_ n1_; (try clear hb); (try clear hb2); (try clear hk); (try clear hi)))
       go_roundg k1
       case measure => have := HK1.out; omega
       case rel => exact ⟨(wrap64 (x8_1 + 1)), z7_, H', ⟨z67_⟩, ⟨z50_⟩, ⟨z25_⟩⟩
     ·rw [if_neg c5] at H
      exact absurd H (by simp)
    ·rw [if_neg c4] at H
     exact absurd H (by simp)
   ·rw [if_neg c3] at H
    have c3b0 : decide (x8_1 < (l0.length : Int)) = false := decide_eq_false c3
    clear c3
    obtain rfl := Option.some.inj H
    go_wp2
    go_ret
    exact ⟨z4_, z25_⟩

/-! ### impl_pairAt: function 139 -/
def impl_pairAt.f (k : Nat) (l0 : List (S147)) (a1 : Int) : Option (Int) := (slices_IndexFunc_Pair_178.f k l0 a1).bind fun t107 => (some t107)
theorem impl_pairAt.mono : ∀ a0 a1 k, LeO (impl_pairAt.f k a0 a1) (impl_pairAt.f (k + 1) a0 a1) := by
 intro a0 a1 k
 unfold impl_pairAt.f
 repeat' first
   | (with_reducible exact slices_IndexFunc_Pair_178.mono _ _ _)
   | (with_reducible exact LeO.refl _)
   | (with_reducible exact LeO.none _)
   | (with_reducible refine LeO.ite ?_ ?_)
   | (with_reducible refine LeO.bind ?_ (fun _ => ?_))
   | exact slices_IndexFunc_Pair_178.mono _ _ _
   | exact LeO.none _
   | refine LeO.ite ?_ ?_
   | refine LeO.bind ?_ (fun _ => ?_)
set_option maxHeartbeats 8000000 in
set_option maxRecDepth 100000 in
theorem impl_pairAt.calls (k : Nat) (A0 : Option Addr) (c0 : Nat) (l0 : List (S147)) (a1 : Int) (r : Int) (w : World) (hr0 : Kd.C k147 w A0 l0.length l0) (hc0 : l0.length ≤ c0) (h : impl_pairAt.f k l0 a1 = some r) :
  Calls Try.prog 139 #[.slice A0 l0.length c0, .int .i64 a1] w fun e w' => e = .returned (.int .i64 r) ∧ Below w.heap.size w w' := by
 have HR0 := q_ hr0
 have HC0 := q_ hc0
 clear hr0 hc0
 have HB := q_ (Below.refl w.heap.size w)
 have H : ((slices_IndexFunc_Pair_178.f k l0 a1).bind fun t107 => (some t107)) = some r := h
 clear h
 replace H := Option.bind_eq_some_iff.mp H
 obtain ⟨t107, A30, H⟩ := H
 replace H : (some t107) = some r := H
 have A3 := q_ A30
 clear A30
 obtain rfl := Option.some.inj H
 go_enter Try.func139, Try.ntmps139
 go_wp2_with (first | ((with_reducible refine gate_dst (N := 3) rfl ?_); refine box_event ?hg (N := 3) ?hd (cs := #[.int .i64 a1]) (t := 3) ?hr ?_; (case hd => rfl); (case hg => rfl); (case hr => exact z108_); intro gb106 hg w4 hbox hb; have n0_ := q_ (below_step z0_ hb); have n1_ := q_ (hbox); have n2_ := q_ ((z91_ : w.heap.size ≤ gb106)); have n3_ := q_ ((z91_ : w.heap.size ≤ gb106)); clear HB; have HB := n0_; have BK106 := n1_; have GW106 := n2_; have GE106 := n3_; clear n0_ n1_ n2_ n3_; clear hb hbox hg) | ((with_reducible refine gate_callee (f := 177) rfl ?_); refine goesL_ (some 7) rfl rfl Try.func177 (by kernel_rfl) rfl #[.slice A0 l0.length c0, .func (.func 178) #[] #[.pointer (some ⟨gb106, 0, none⟩)]] rfl z1_ ?_; (with_reducible refine (slices_IndexFunc_Pair_178.calls k _ _ l0 gb106 a1 t107 _ ?side1 ?side2 ?side3 A3.out).mono ?_); (case side1 => exact z109_); (case side2 => exact HC0.out); (case side3 => (with_reducible repeat (first | refine blk_drewN ?_ _ | refine blk_drew ?_ | refine blk_alloc ?_ _)); exact BK106.out); rintro e w5 ⟨rfl, hb⟩; refine ⟨_, rfl, ?_⟩; have n0_ := q_ (blk_below (g := gb106) (o := .cells #[.int .i64 a1] 3 (0, 0)) (by (with_reducible repeat (first | refine blk_drewN ?_ _ | refine blk_drew ?_ | refine blk_alloc ?_ _)); exact BK106.out) hb); have n1_ := q_ (below_step z72_ hb); clear BK106; clear HB; have BK106 := n0_; have HB := n1_; clear n0_ n1_; (try clear hb); (try clear hb2); (try clear hk); (try clear hi)))
 go_ret
 exact ⟨z4_, z72_⟩

/-! ### impl_MapGet: function 61 -/
def impl_MapGet.f (k : Nat) (l0 : List (S147)) (a1 : Int) : Option (Int × Bool) := (impl_pairAt.f k l0 a1).bind fun t108 => (if t108 < 0 then (some (0, false)) else (if 0 ≤ t108 then (if t108 < (l0.length : Int) then (some ((rd_T147 l0 t108).f1, true)) else (none)) else (none)))
theorem impl_MapGet.mono : ∀ a0 a1 k, LeO (impl_MapGet.f k a0 a1) (impl_MapGet.f (k + 1) a0 a1) := by
 intro a0 a1 k
 unfold impl_MapGet.f
 repeat' first
   | (with_reducible exact impl_pairAt.mono _ _ _)
   | (with_reducible exact LeO.refl _)
   | (with_reducible exact LeO.none _)
   | (with_reducible refine LeO.ite ?_ ?_)
   | (with_reducible refine LeO.bind ?_ (fun _ => ?_))
   | exact impl_pairAt.mono _ _ _
   | exact LeO.none _
   | refine LeO.ite ?_ ?_
   | refine LeO.bind ?_ (fun _ => ?_)
set_option maxHeartbeats 8000000 in
set_option maxRecDepth 100000 in
theorem impl_MapGet.calls (k : Nat) (A0 : Option Addr) (c0 : Nat) (l0 : List (S147)) (a1 : Int) (r1 : Int) (r2 : Bool) (w : World) (hr0 : Kd.C k147 w A0 l0.length l0) (hc0 : l0.length ≤ c0) (h : impl_MapGet.f k l0 a1 = some (r1, r2)) :
  Calls Try.prog 61 #[.slice A0 l0.length c0, .int .i64 a1] w fun e w' => e = .returned (.tuple #[.int .i64 r1, .bool r2]) ∧ Below w.heap.size w w' := by
 have HR0 := q_ hr0
 have HC0 := q_ hc0
 clear hr0 hc0
 have HB := q_ (Below.refl w.heap.size w)
 have H : ((impl_pairAt.f k l0 a1).bind fun t108 => (if t108 < 0 then (some (0, false)) else (if 0 ≤ t108 then (if t108 < (l0.length : Int) then (some ((rd_T147 l0 t108).f1, true)) else (none)) else (none)))) = some (r1, r2) := h
 clear h
 replace H := Option.bind_eq_some_iff.mp H
 obtain ⟨t108, A30, H⟩ := H
 replace H : (if t108 < 0 then (some (0, false)) else (if 0 ≤ t108 then (if t108 < (l0.length : Int) then (some ((rd_T147 l0 t108).f1, true)) else (none)) else (none))) = some (r1, r2) := H
 have A3 := q_ A30
 clear A30
 by_cases c4 : t108 < 0
 ·rw [if_pos c4] at H
  have c4b0 : decide (t108 < 0) = true := decide_eq_true c4
  clear c4
  simp only [Option.some.injEq, Prod.mk.injEq] at H
  obtain ⟨rfl, rfl⟩ := H
  go_enter Try.func61, Try.ntmps61
  go_wp2_with (first | ((with_reducible refine gate_callee (f := 139) rfl ?_); refine goesL_ (some 9) rfl rfl Try.func139 (by kernel_rfl) rfl #[.slice A0 l0.length c0, .int .i64 a1] rfl z1_ ?_; (with_reducible refine (impl_pairAt.calls k _ _ l0 a1 t108 _ ?side1 ?side2 A3.out).mono ?_); (case side1 => exact z110_); (case side2 => exact HC0.out); rintro e w5 ⟨rfl, hb⟩; refine ⟨_, rfl, ?_⟩; have n0_ := q_ (below_step z0_ hb); clear HB; have HB := n0_; clear n0_; (try clear hb); (try clear hb2); (try clear hk); (try clear hi)))
  go_ret2
  exact ⟨z4_, z0_⟩
 ·rw [if_neg c4] at H
  have c4b0 : decide (t108 < 0) = false := decide_eq_false c4
  clear c4
  by_cases c6 : 0 ≤ t108
  ·rw [if_pos c6] at H
   have c6b0 : decide (0 ≤ t108) = true := decide_eq_true c6
   clear c6
   by_cases c7 : t108 < (l0.length : Int)
   ·rw [if_pos c7] at H
    have c7b0 : decide (t108 < (l0.length : Int)) = true := decide_eq_true c7
    clear c7
    simp only [Option.some.injEq, Prod.mk.injEq] at H
    obtain ⟨rfl, rfl⟩ := H
    go_enter Try.func61, Try.ntmps61
    go_wp2_with (first | ((with_reducible refine gate_callee (f := 139) rfl ?_); refine goesL_ (some 9) rfl rfl Try.func139 (by kernel_rfl) rfl #[.slice A0 l0.length c0, .int .i64 a1] rfl z1_ ?_; (with_reducible refine (impl_pairAt.calls k _ _ l0 a1 t108 _ ?side1 ?side2 A3.out).mono ?_); (case side1 => exact z110_); (case side2 => exact HC0.out); rintro e w8 ⟨rfl, hb⟩; refine ⟨_, rfl, ?_⟩; have n0_ := q_ (below_step z0_ hb); clear HB; have HB := n0_; clear n0_; (try clear hb); (try clear hb2); (try clear hk); (try clear hi); have p109 : 0 ≤ (t108 : Int) := of_decide_eq_true z5_; have q109 : t108 < (l0.length : Int) := of_decide_eq_true z5_; obtain ⟨ad109, e109, hx109_0, hx109_1⟩ := at_T147 HR0.out t108 p109 q109; cases e109; replace hx109_0 := up_ HB hx109_0; replace hx109_1 := up_ HB hx109_1; replace p109 := eq_true p109; replace q109 := eq_true q109))
    go_ret2
    exact ⟨z4_, z0_⟩
   ·rw [if_neg c7] at H
    exact absurd H (by simp)
  ·rw [if_neg c6] at H
   exact absurd H (by simp)

/-! ### spec_l1In: function 106 -/
def spec_l1In.f (a0 : Int) (a1 : Int) (a2 : Int) : Option (Bool) := if a0 ≥ a1 then (some (decide (a0 ≤ a2))) else (some false)
set_option maxHeartbeats 8000000 in
set_option maxRecDepth 100000 in
theorem spec_l1In.calls (a0 : Int) (a1 : Int) (a2 : Int) (r : Bool) (w : World) (h : spec_l1In.f a0 a1 a2 = some r) :
  Calls Try.prog 106 #[.int .i64 a0, .int .i64 a1, .int .i64 a2] w fun e w' => e = .returned (.bool r) ∧ Drawn0 w w' := by
 have H : (if a0 ≥ a1 then (some (decide (a0 ≤ a2))) else (some false)) = some r := h
 clear h
 by_cases c4 : a0 ≥ a1
 ·rw [if_pos c4] at H
  have c4b0 : decide (a1 ≤ a0) = true := decide_eq_true c4
  clear c4
  obtain rfl := Option.some.inj H
  go_enter Try.func106, Try.ntmps106
  go_wp2
  go_ret
  exact ⟨z7_, z31_⟩
 ·rw [if_neg c4] at H
  have c4b0 : decide (a1 ≤ a0) = false := decide_eq_false c4
  clear c4
  obtain rfl := Option.some.inj H
  go_enter Try.func106, Try.ntmps106
  go_wp2
  go_ret
  exact ⟨z7_, z31_⟩

/-! ### spec_l1Value: function 138 -/
def spec_l1Value.f (a0 : Int) : Option (Bool) := (spec_l1In.f a0 (-1000000000) 1000000000).bind fun t110 => (some t110)
set_option maxHeartbeats 8000000 in
set_option maxRecDepth 100000 in
theorem spec_l1Value.calls (a0 : Int) (r : Bool) (w : World) (h : spec_l1Value.f a0 = some r) :
  Calls Try.prog 138 #[.int .i64 a0] w fun e w' => e = .returned (.bool r) ∧ Drawn0 w w' := by
 have H : ((spec_l1In.f a0 (-1000000000) 1000000000).bind fun t110 => (some t110)) = some r := h
 clear h
 replace H := Option.bind_eq_some_iff.mp H
 obtain ⟨t110, A20, H⟩ := H
 replace H : (some t110) = some r := H
 have A2 := q_ A20
 clear A20
 obtain rfl := Option.some.inj H
 go_enter Try.func138, Try.ntmps138
 go_wp2_with (first | ((with_reducible refine gate_callee (f := 106) rfl ?_); refine goesL_ (some 4) rfl rfl Try.func106 (by kernel_rfl) rfl #[.int .i64 a0, .int .i64 (-1000000000), .int .i64 1000000000] rfl z1_ ?_; (with_reducible refine (spec_l1In.calls a0 (-1000000000) 1000000000 t110 _ A2.out).mono ?_); rintro e w' ⟨rfl, ⟨nd, rfl⟩⟩; refine ⟨_, rfl, ?_⟩))
 go_ret
 exact ⟨z7_, z31_⟩

end Go.Proofs.Ytphlmbhjeoljoaa.PFnMapAll
