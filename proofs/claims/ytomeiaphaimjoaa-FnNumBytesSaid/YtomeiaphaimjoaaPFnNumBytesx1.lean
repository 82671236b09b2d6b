-- Written by a program of this session, which goes by the kit's print. Not trusted: Lean checks it.
import Derived.Test.YtomeiaphaimjoaaPFnNumBytesx0
namespace Go.Proofs.Ytomeiaphaimjoaa.PFnNumBytes
open Go.RowKit Go.Proofs.YtomeiaphaimjoaaW.PrintWords Go.Proofs.YtomeiaphaimjoaaW.PrintLast Go.Proofs.YtomeiaphaimjoaaW.PrintMore
attribute [local go_sem] max2_int min2_int max_two min_two max_three min_three max_four min_four   -- for this text's walks alone
set_option linter.unusedVariables false
set_option linter.unusedSimpArgs false

/-! ### spec_l1In: function 54 -/
def spec_l1In.f (a0 : Int) (a1 : Int) (a2 : Int) : Option (Bool) := if a0 ≥ a1 then (some (decide (a0 ≤ a2))) else (some false)
set_option maxHeartbeats 8000000 in
set_option maxRecDepth 100000 in
theorem spec_l1In.calls (a0 : Int) (a1 : Int) (a2 : Int) (r : Bool) (w : World) (h : spec_l1In.f a0 a1 a2 = some r) :
  Calls Try.prog 54 #[.int .i64 a0, .int .i64 a1, .int .i64 a2] w fun e w' => e = .returned (.bool r) ∧ Drawn0 w w' := by
 have H := h; clear h
 unfold spec_l1In.f at H
 by_cases c4 : a0 ≥ a1
 ·rw [if_pos c4] at H
  have c4b0 : decide (a1 ≤ a0) = true := decide_eq_true c4
  clear c4
  obtain rfl := si_ H
  go_enter Try.func54, Try.ntmps54
  go_wp2
  go_ret
  exact ⟨z10_, z12_⟩
 ·rw [if_neg c4] at H
  have c4b0 : decide (a1 ≤ a0) = false := decide_eq_false c4
  clear c4
  obtain rfl := si_ H
  go_enter Try.func54, Try.ntmps54
  go_wp2
  go_ret
  exact ⟨z10_, z12_⟩

/-! ### spec_PutNum: function 20 -/
mutual
def spec_PutNum.j0 : Nat → List Int → Int → Option (List Int)
 | 0, _, _ => none
 | k + 1, x3, x4 => spec_PutNum.l0 k x3 x4
def spec_PutNum.l0 : Nat → List Int → Int → Option (List Int)
 | 0, _, _ => none
 | k + 1, x3, x4 => if x4 > 127 then (if x3.length < 140737488355328 then (spec_PutNum.l0 k (x3 ++ [(wrap64 ((Int.tmod x4 128) + 128)) % 256]) (wrap64 (Int.tdiv x4 128))) else (none)) else (if x3.length < 140737488355328 then (some (x3 ++ [(x4) % 256])) else (none))
end
def spec_PutNum.f (k : Nat) (a0 : Int) : Option (List Int) := (some (([] : List Int) : List Int)).bind fun y101 => ((spec_l1In.f a0 (-2000000000) 2000000000).bind fun t104 => (if t104 = true then (if a0 < 0 then (spec_PutNum.j0 k y101 (wrap64 ((wrap64 ((-2) * a0)) - 1))) else (spec_PutNum.j0 k y101 (wrap64 (2 * a0)))) else (some y101)))
theorem spec_PutNum.mono_l : ∀ k, (∀ y0 y1, LeO (spec_PutNum.j0 k y0 y1) (spec_PutNum.j0 (k + 1) y0 y1)) ∧ (∀ y0 y1, LeO (spec_PutNum.l0 k y0 y1) (spec_PutNum.l0 (k + 1) y0 y1))
 | 0 => ⟨fun _ _ r h => by simp [spec_PutNum.j0] at h, fun _ _ r h => by simp [spec_PutNum.l0] at h⟩
 | k + 1 => by
  obtain ⟨ih0, ih1⟩ := spec_PutNum.mono_l k
  refine ⟨?_, ?_⟩
  ·intro y0 y1
   unfold spec_PutNum.j0
   exact zm_
  ·intro y0 y1
   unfold spec_PutNum.l0
   exact zm_
theorem spec_PutNum.mono : ∀ a0 k, LeO (spec_PutNum.f k a0) (spec_PutNum.f (k + 1) a0) := by
 intro a0 k
 obtain ⟨ih0, ih1⟩ := spec_PutNum.mono_l k
 unfold spec_PutNum.f
 exact zm_
set_option maxHeartbeats 8000000 in
set_option maxRecDepth 100000 in
theorem spec_PutNum.calls (k : Nat) (a0 : Int) (r : List Int) (w : World) (h : spec_PutNum.f k a0 = some r) :
  Calls Try.prog 20 #[.int .i64 a0] w fun e w' => ∃ v0_ : Value, e = .returned (v0_) ∧ Kd.R (Kd.int .u8) 5 w' w.heap.size (fun _ => True) v0_ r ∧ Below w.heap.size w w' := by
 have HB := q_ (Below.refl w.heap.size w)
 have H := h; clear h
 unfold spec_PutNum.f at H
 obtain ⟨y101, hy_⟩ : ∃ y_ : List Int, y_ = (([] : List Int)) := ⟨_, rfl⟩
 replace H : ((spec_l1In.f a0 (-2000000000) 2000000000).bind fun t104 => (if t104 = true then (if a0 < 0 then (spec_PutNum.j0 k y101 (wrap64 ((wrap64 ((-2) * a0)) - 1))) else (spec_PutNum.j0 k y101 (wrap64 (2 * a0)))) else (some y101))) = some r := z2_
 have Ny101 := q_ hy_
 clear hy_
 replace H := bi_ H; obtain ⟨t104, A2, H⟩ := H
 have HC3 := q_ H
 clear H
 go_enter Try.func20, Try.ntmps20
 go_upto_if 8 with (first | ((with_reducible refine gate_dst (N := 5) rfl ?_); refine Kd.R_lit (Kd.int .u8) _ 5 ?hg (N := 5) ?hd (xs := ([] : List Int)) (inner := []) (ok := fun _ => True) (okp := fun _ => True) ?hr ?hp (fun _ hk => hk) trivial (Below.refl _ _) (Nat.le_refl _) (by simp) ?_; (case hd => rfl); (case hg => rfl); (case hr => exact z45_); (case hp => exact (Reps.none _ _)); intro v102 w4 ho5 hb hg_ hnew_; clear hg_ hnew_; (first | rw [← Ny101.out] at ho5 | (simp only [Int.reduceToNat] at ho5; rw [← Ny101.out] at ho5)); have HO103 := q_ (Kd.R_lower ho5 (below_size cb_)); replace HB := hb_ hb; clear hb ho5) | ((with_reducible refine gate_callee (f := 54) rfl ?_); refine goesL_ (some 7) rfl rfl Try.func54 (by kernel_rfl) rfl #[.int .i64 a0, .int .i64 (-2000000000), .int .i64 2000000000] rfl z1_ ?_; (with_reducible refine (spec_l1In.calls a0 (-2000000000) 2000000000 t104 _ A2.out).mono ?_); rintro e w' ⟨rfl, ⟨nd, rfl⟩⟩; refine ⟨_, rfl, ?_⟩))
 (try simp only [Act.put, List.setIfInBounds_toArray, List.set_cons_zero, List.set_cons_succ])
 have H := HC3.out
 clear HC3
 replace H := kb_ H; rcases H with ⟨rfl, H⟩ | ⟨rfl, H⟩
 ·have HC7 := q_ H
  clear H
  go_upto_if 13 with (fail)
  go_cut [4] (fun v4 wc => ∃ (kq : Nat) (x4_6 : Int), v4 = .int .i64 x4_6 ∧ Aside0 (spec_PutNum.j0 kq y101 x4_6 = some r) ∧ Aside0 (kq ≤ k) ∧ Aside0 (Kd.R (Kd.int .u8) 5 wc w.heap.size (fun _ => True) v102 y101) ∧ Aside0 (Below w.heap.size w wc))
  case first =>
   have H := HC7.out
   clear HC7
   replace H := kd_ H; rcases H with ⟨c8b0, H⟩ | ⟨c8b0, H⟩
   ·(first | rw [c8b0] | rw [c8b1] | (simp only [i64_w, i32_w]; first | rw [c8b0] | rw [c8b1]) | rw [c8b2] | skip)
    have H' := q_ H
    clear H
    go_wp2
    go_meet
    case rel => exact ⟨_, (wrap64 ((wrap64 ((-2) * a0)) - 1)), z10_, H', ⟨z24_⟩, ⟨z26_⟩, ⟨cb_⟩⟩
   ·(first | rw [c8b0] | rw [c8b1] | (simp only [i64_w, i32_w]; first | rw [c8b0] | rw [c8b1]) | rw [c8b2] | skip)
    have H' := q_ H
    clear H
    go_wp2
    go_meet
    case rel => exact ⟨_, (wrap64 (2 * a0)), z10_, H', ⟨z24_⟩, ⟨z26_⟩, ⟨cb_⟩⟩
  case rest =>
   clear HC7
   try clear c2
   try clear p2
   try clear c5
   try clear c6
   try clear p6
   try clear c8
   try clear c8b0
   try clear c8b1
   try clear c8b2
   obtain ⟨kq, x4_6, rfl, HA, HJ6, HO_3, HB⟩ := hcut
   obtain ⟨kj6, rfl, H⟩ := rn_ (k := kq) HA (by rintro rfl; simp only [spec_PutNum.j0])
   clear HA
   simp only [spec_PutNum.j0] at H
   have H' := q_ H
   clear H
   go_wp2
   go_loopg [3, 4] kj6 (fun kq v3 v4 w' => ∃ (x3_2 : List Int) (x4_2 : Int), v4 = .int .i64 x4_2 ∧ Aside0 (spec_PutNum.l0 kq x3_2 x4_2 = some r) ∧ Aside0 (kq ≤ kj6) ∧ Aside0 (Kd.R (Kd.int .u8) 5 w' w.heap.size (fun _ => True) v3 x3_2) ∧ Aside0 (Below w.heap.size w w'))
   case atStart => exact ⟨(y101), (x4_6), z10_, H', ⟨Nat.le_refl _⟩, ⟨z28_⟩, ⟨cb_⟩⟩
   case round =>
    clear H'
    try clear c2
    try clear p2
    try clear c5
    try clear c6
    try clear p6
    try clear c8
    try clear c8b0
    try clear c8b1
    try clear c8b2
    try clear p2
    try clear p6
    obtain ⟨x3_2, x4_2, rfl, HA, HK2, HO_3, HB⟩ := hrel
    obtain ⟨k2, rfl, H⟩ := rn_ (k := gk) HA (by rintro rfl; simp only [spec_PutNum.l0])
    clear HA
    simp only [spec_PutNum.l0] at H
    replace H := kg_ H; rcases H with ⟨c9b0, H⟩ | ⟨c9b0, H⟩
    ·replace H := kln_ H; obtain ⟨LMc10, H⟩ := H
     obtain ⟨y105, hy_⟩ : ∃ y_ : List Int, y_ = (x3_2 ++ [(wrap64 ((Int.tmod x4_2 128) + 128)) % 256]) := ⟨_, rfl⟩
     replace H : (spec_PutNum.l0 k2 y105 (wrap64 (Int.tdiv x4_2 128))) = some r := z2_
     have Ny105 := q_ hy_
     clear hy_
     have H' := q_ H
     clear H
     go_wp2_with (first | ((with_reducible refine gate_builtin (b := .append) (xs := #[.tmp 19, .tmp 24]) rfl ?_); at_builtin; refine Kd.R_append (Kd.int .u8) (w0 := w) w.heap.size rfl (.tmp 19) (.tmp 24) 31 5 (.int .u8 0) 1 rfl Try.underlying31 info5 rfl (by decide) (by omega) u3 x3_2 ((wrap64 ((Int.tmod x4_2 128) + 128)) % 256) [.int .u8 ((wrap64 ((Int.tmod x4_2 128) + 128)) % 256)] (fun _ => True) (fun _ => False) rfl rfl ?aP (fun _ hk => hk.elim) ?aF ?aO ?aB ?aS ?aL ?_; (case aP => exact rfl); (case aB => exact cb_); (case aF => exact (fun _ _ => trivial)); (case aO => exact z28_); (case aS => exact (below_size cb_)); (case aL => have := LMc10.out; omega); intro v106 w11 ho hb hg hat; rw [← Ny105.out] at ho; replace HB := q_ (hb); have HO107 := q_ (ho); clear HO_3; clear ho hb hg hat))
     go_roundg k2
     case measure => have := HJ6.out; have := HK2.out; omega
     case rel => exact ⟨(y105), (wrap64 (Int.tdiv x4_2 128)), z10_, H', ⟨by have := HJ6.out; have := HK2.out; omega⟩, ⟨by (with_reducible repeat (first | apply Kd.R_alloc | apply Kd.R_drewN | apply Kd.R_drew)); exact HO107.out⟩, ⟨cb_⟩⟩
    ·replace H := kln_ H; obtain ⟨LMc12, H⟩ := H
     obtain ⟨y108, hy_⟩ : ∃ y_ : List Int, y_ = (x3_2 ++ [(x4_2) % 256]) := ⟨_, rfl⟩
     replace H : (some y108) = some r := z2_
     have Ny108 := q_ hy_
     clear hy_
     obtain rfl := si_ H
     go_wp2_with (first | ((with_reducible refine gate_builtin (b := .append) (xs := #[.tmp 28, .tmp 31]) rfl ?_); at_builtin; refine Kd.R_append (Kd.int .u8) (w0 := w) w.heap.size rfl (.tmp 28) (.tmp 31) 31 5 (.int .u8 0) 1 rfl Try.underlying31 info5 rfl (by decide) (by omega) u3 x3_2 ((x4_2) % 256) [.int .u8 ((x4_2) % 256)] (fun _ => True) (fun _ => False) rfl rfl ?aP (fun _ hk => hk.elim) ?aF ?aO ?aB ?aS ?aL ?_; (case aP => exact rfl); (case aB => exact cb_); (case aF => exact (fun _ _ => trivial)); (case aO => exact z28_); (case aS => exact (below_size cb_)); (case aL => have := LMc12.out; omega); intro v109 w13 ho hb hg hat; rw [← Ny108.out] at ho; replace HB := q_ (hb); have HO110 := q_ (ho); clear HO_3; clear ho hb hg hat))
     go_ret
     exact ⟨_, z4_, by (with_reducible repeat (first | apply Kd.R_alloc | apply Kd.R_drewN | apply Kd.R_drew)); exact HO110.out, cb_⟩
 ·obtain rfl := si_ H
  go_wp2
  go_ret
  exact ⟨_, z4_, z26_, cb_⟩

/-! ### impl_within: function 58 -/
def impl_within.f (a0 : Int) (a1 : Int) (a2 : Int) : Option (Bool) := if a0 ≥ a1 then (some (decide (a0 ≤ a2))) else (some false)
set_option maxHeartbeats 8000000 in
set_option maxRecDepth 100000 in
theorem impl_within.calls (a0 : Int) (a1 : Int) (a2 : Int) (r : Bool) (w : World) (h : impl_within.f a0 a1 a2 = some r) :
  Calls Try.prog 58 #[.int .i64 a0, .int .i64 a1, .int .i64 a2] w fun e w' => e = .returned (.bool r) ∧ Drawn0 w w' := by
 have H := h; clear h
 unfold impl_within.f at H
 by_cases c4 : a0 ≥ a1
 ·rw [if_pos c4] at H
  have c4b0 : decide (a1 ≤ a0) = true := decide_eq_true c4
  clear c4
  obtain rfl := si_ H
  go_enter Try.func58, Try.ntmps58
  go_wp2
  go_ret
  exact ⟨z10_, z12_⟩
 ·rw [if_neg c4] at H
  have c4b0 : decide (a1 ≤ a0) = false := decide_eq_false c4
  clear c4
  obtain rfl := si_ H
  go_enter Try.func58, Try.ntmps58
  go_wp2
  go_ret
  exact ⟨z10_, z12_⟩

/-! ### impl_PutNum: function 21 -/
mutual
def impl_PutNum.j0 : Nat → Int → Option (List Int)
 | 0, _ => none
 | k + 1, x3 => impl_PutNum.l0 k x3 (([] : List Int))
def impl_PutNum.l0 : Nat → Int → List Int → Option (List Int)
 | 0, _, _ => none
 | k + 1, x3, x4 => if x3 > 127 then (if x4.length < 140737488355328 then (impl_PutNum.l0 k (wrap64 (Int.tdiv x3 128)) (x4 ++ [(wrap64 ((Int.tmod x3 128) + 128)) % 256])) else (none)) else (if x4.length < 140737488355328 then (some (x4 ++ [(x3) % 256])) else (none))
end
def impl_PutNum.f (k : Nat) (a0 : Int) : Option (List Int) := (impl_within.f a0 (-2000000000) 2000000000).bind fun t111 => (if t111 = true then (if a0 < 0 then (impl_PutNum.j0 k (wrap64 ((wrap64 ((-2) * a0)) - 1))) else (impl_PutNum.j0 k (wrap64 (2 * a0)))) else (some ([] : List Int)))
theorem impl_PutNum.mono_l : ∀ k, (∀ y0, LeO (impl_PutNum.j0 k y0) (impl_PutNum.j0 (k + 1) y0)) ∧ (∀ y0 y1, LeO (impl_PutNum.l0 k y0 y1) (impl_PutNum.l0 (k + 1) y0 y1))
 | 0 => ⟨fun _ r h => by simp [impl_PutNum.j0] at h, fun _ _ r h => by simp [impl_PutNum.l0] at h⟩
 | k + 1 => by
  obtain ⟨ih0, ih1⟩ := impl_PutNum.mono_l k
  refine ⟨?_, ?_⟩
  ·intro y0
   unfold impl_PutNum.j0
   exact zm_
  ·intro y0 y1
   unfold impl_PutNum.l0
   exact zm_
theorem impl_PutNum.mono : ∀ a0 k, LeO (impl_PutNum.f k a0) (impl_PutNum.f (k + 1) a0) := by
 intro a0 k
 obtain ⟨ih0, ih1⟩ := impl_PutNum.mono_l k
 unfold impl_PutNum.f
 exact zm_
set_option maxHeartbeats 8000000 in
set_option maxRecDepth 100000 in
theorem impl_PutNum.calls (k : Nat) (a0 : Int) (r : List Int) (w : World) (h : impl_PutNum.f k a0 = some r) :
  Calls Try.prog 21 #[.int .i64 a0] w fun e w' => ∃ v0_ : Value, e = .returned (v0_) ∧ Kd.R (Kd.int .u8) 5 w' w.heap.size (fun _ => True) v0_ r ∧ Below w.heap.size w w' := by
 have HB := q_ (Below.refl w.heap.size w)
 have H := h; clear h
 unfold impl_PutNum.f at H
 replace H := bi_ H; obtain ⟨t111, A2, H⟩ := H
 have HC3 := q_ H
 clear H
 go_enter Try.func21, Try.ntmps21
 go_upto_if 7 with (first | ((with_reducible refine gate_callee (f := 58) rfl ?_); refine goesL_ (some 6) rfl rfl Try.func58 (by kernel_rfl) rfl #[.int .i64 a0, .int .i64 (-2000000000), .int .i64 2000000000] rfl z1_ ?_; (with_reducible refine (impl_within.calls a0 (-2000000000) 2000000000 t111 _ A2.out).mono ?_); rintro e w' ⟨rfl, ⟨nd, rfl⟩⟩; refine ⟨_, rfl, ?_⟩))
 (try simp only [Act.put, List.setIfInBounds_toArray, List.set_cons_zero, List.set_cons_succ])
 have H := HC3.out
 clear HC3
 replace H := kb_ H; rcases H with ⟨rfl, H⟩ | ⟨rfl, H⟩
 ·have HC5 := q_ H
  clear H
  go_upto_if 11 with (fail)
  go_cut [3] (fun v3 wc => ∃ (kq : Nat) (x3_4 : Int), v3 = .int .i64 x3_4 ∧ Aside0 (impl_PutNum.j0 kq x3_4 = some r) ∧ Aside0 (kq ≤ k) ∧ Aside0 (Below w.heap.size w wc))
  case first =>
   have H := HC5.out
   clear HC5
   replace H := kd_ H; rcases H with ⟨c6b0, H⟩ | ⟨c6b0, H⟩
   ·(first | rw [c6b0] | rw [c6b1] | (simp only [i64_w, i32_w]; first | rw [c6b0] | rw [c6b1]) | rw [c6b2] | skip)
    have H' := q_ H
    clear H
    go_wp2
    go_meet
    case rel => exact ⟨_, (wrap64 ((wrap64 ((-2) * a0)) - 1)), z10_, H', ⟨z24_⟩, ⟨cb_⟩⟩
   ·(first | rw [c6b0] | rw [c6b1] | (simp only [i64_w, i32_w]; first | rw [c6b0] | rw [c6b1]) | rw [c6b2] | skip)
    have H' := q_ H
    clear H
    go_wp2
    go_meet
    case rel => exact ⟨_, (wrap64 (2 * a0)), z10_, H', ⟨z24_⟩, ⟨cb_⟩⟩
  case rest =>
   clear HC5
   try clear c2
   try clear p2
   try clear c4
   try clear c5
   try clear c6
   try clear c6b0
   try clear c6b1
   try clear c6b2
   try clear p6
   obtain ⟨kq, x3_4, rfl, HA, HJ4, HB⟩ := hcut
   obtain ⟨kj4, rfl, H⟩ := rn_ (k := kq) HA (by rintro rfl; simp only [impl_PutNum.j0])
   clear HA
   simp only [impl_PutNum.j0] at H
   obtain ⟨y112, hy_⟩ : ∃ y_ : List Int, y_ = (([] : List Int)) := ⟨_, rfl⟩
   replace H : (impl_PutNum.l0 kj4 x3_4 y112) = some r := z2_
   have Ny112 := q_ hy_
   clear hy_
   have H' := q_ H
   clear H
   go_wp2_with (first | ((with_reducible refine gate_dst (N := 15) rfl ?_); refine Kd.R_lit (Kd.int .u8) _ 5 ?hg (N := 15) ?hd (xs := ([] : List Int)) (inner := []) (ok := fun _ => True) (okp := fun _ => True) ?hr ?hp (fun _ hk => hk) trivial (Below.refl _ _) (Nat.le_refl _) (by simp) ?_; (case hd => rfl); (case hg => rfl); (case hr => exact z45_); (case hp => exact (Reps.none _ _)); intro v113 w7 ho8 hb hg_ hnew_; clear hg_ hnew_; (first | rw [← Ny112.out] at ho8 | (simp only [Int.reduceToNat] at ho8; rw [← Ny112.out] at ho8)); have HO114 := q_ (Kd.R_lower ho8 (below_size cb_)); replace HB := hb_ hb; clear hb ho8))
   go_loopg [3, 4] kj4 (fun kq v3 v4 w' => ∃ (x3_2 : Int) (x4_2 : List Int), v3 = .int .i64 x3_2 ∧ Aside0 (impl_PutNum.l0 kq x3_2 x4_2 = some r) ∧ Aside0 (kq ≤ kj4) ∧ Aside0 (Kd.R (Kd.int .u8) 5 w' w.heap.size (fun _ => True) v4 x4_2) ∧ Aside0 (Below w.heap.size w w'))
   case atStart => exact ⟨(x3_4), (y112), z10_, H', ⟨Nat.le_refl _⟩, ⟨by (with_reducible repeat (first | apply Kd.R_alloc | apply Kd.R_drewN | apply Kd.R_drew)); exact HO114.out⟩, ⟨cb_⟩⟩
   case round =>
    clear H'
    try clear c2
    try clear p2
    try clear c4
    try clear c5
    try clear c6
    try clear c6b0
    try clear c6b1
    try clear c6b2
    try clear p6
    try clear p2
    try clear p6
    obtain ⟨x3_2, x4_2, rfl, HA, HK2, HO_4, HB⟩ := hrel
    obtain ⟨k2, rfl, H⟩ := rn_ (k := gk) HA (by rintro rfl; simp only [impl_PutNum.l0])
    clear HA
    simp only [impl_PutNum.l0] at H
    replace H := kg_ H; rcases H with ⟨c9b0, H⟩ | ⟨c9b0, H⟩
    ·replace H := kln_ H; obtain ⟨LMc10, H⟩ := H
     obtain ⟨y115, hy_⟩ : ∃ y_ : List Int, y_ = (x4_2 ++ [(wrap64 ((Int.tmod x3_2 128) + 128)) % 256]) := ⟨_, rfl⟩
     replace H : (impl_PutNum.l0 k2 (wrap64 (Int.tdiv x3_2 128)) y115) = some r := z2_
     have Ny115 := q_ hy_
     clear hy_
     have H' := q_ H
     clear H
     go_wp2_with (first | ((with_reducible refine gate_builtin (b := .append) (xs := #[.tmp 18, .tmp 23]) rfl ?_); at_builtin; refine Kd.R_append (Kd.int .u8) (w0 := w) w.heap.size rfl (.tmp 18) (.tmp 23) 31 5 (.int .u8 0) 1 rfl Try.underlying31 info5 rfl (by decide) (by omega) u4 x4_2 ((wrap64 ((Int.tmod x3_2 128) + 128)) % 256) [.int .u8 ((wrap64 ((Int.tmod x3_2 128) + 128)) % 256)] (fun _ => True) (fun _ => False) rfl rfl ?aP (fun _ hk => hk.elim) ?aF ?aO ?aB ?aS ?aL ?_; (case aP => exact rfl); (case aB => exact cb_); (case aF => exact (fun _ _ => trivial)); (case aO => exact z31_); (case aS => exact (below_size cb_)); (case aL => have := LMc10.out; omega); intro v116 w11 ho hb hg hat; rw [← Ny115.out] at ho; replace HB := q_ (hb); have HO117 := q_ (ho); clear HO_4; clear ho hb hg hat))
     go_roundg k2
     case measure => have := HJ4.out; have := HK2.out; omega
     case rel => exact ⟨(wrap64 (Int.tdiv x3_2 128)), (y115), z10_, H', ⟨by have := HJ4.out; have := HK2.out; omega⟩, ⟨by (with_reducible repeat (first | apply Kd.R_alloc | apply Kd.R_drewN | apply Kd.R_drew)); exact HO117.out⟩, ⟨cb_⟩⟩
    ·replace H := kln_ H; obtain ⟨LMc12, H⟩ := H
     obtain ⟨y118, hy_⟩ : ∃ y_ : List Int, y_ = (x4_2 ++ [(x3_2) % 256]) := ⟨_, rfl⟩
     replace H : (some y118) = some r := z2_
     have Ny118 := q_ hy_
     clear hy_
     obtain rfl := si_ H
     go_wp2_with (first | ((with_reducible refine gate_builtin (b := .append) (xs := #[.tmp 27, .tmp 30]) rfl ?_); at_builtin; refine Kd.R_append (Kd.int .u8) (w0 := w) w.heap.size rfl (.tmp 27) (.tmp 30) 31 5 (.int .u8 0) 1 rfl Try.underlying31 info5 rfl (by decide) (by omega) u4 x4_2 ((x3_2) % 256) [.int .u8 ((x3_2) % 256)] (fun _ => True) (fun _ => False) rfl rfl ?aP (fun _ hk => hk.elim) ?aF ?aO ?aB ?aS ?aL ?_; (case aP => exact rfl); (case aB => exact cb_); (case aF => exact (fun _ _ => trivial)); (case aO => exact z31_); (case aS => exact (below_size cb_)); (case aL => have := LMc12.out; omega); intro v119 w13 ho hb hg hat; rw [← Ny118.out] at ho; replace HB := q_ (hb); have HO120 := q_ (ho); clear HO_4; clear ho hb hg hat))
     go_ret
     exact ⟨_, z4_, by (with_reducible repeat (first | apply Kd.R_alloc | apply Kd.R_drewN | apply Kd.R_drew)); exact HO120.out, cb_⟩
 ·obtain rfl := si_ H
  go_wp2
  go_ret
  exact ⟨_, z4_, by first | exact Kd.R_nil _ _ _ _ _ | exact Kd.N_nil _ _ _ _ _ | exact Kd.V_nil _ _ _ _ _ | exact Kd.Q_nil _ _ _ _ _ | exact Kd.S_nil _ _ _ _ _, cb_⟩

end Go.Proofs.Ytomeiaphaimjoaa.PFnNumBytes
