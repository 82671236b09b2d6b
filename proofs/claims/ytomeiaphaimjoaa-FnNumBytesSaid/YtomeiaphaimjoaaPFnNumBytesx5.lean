-- Written by a program of this session, which goes by the kit's print. Not trusted: Lean checks it.
import Derived.Test.YtomeiaphaimjoaaPFnNumBytesx0
import Derived.Test.YtomeiaphaimjoaaPFnNumBytesx1
import Derived.Test.YtomeiaphaimjoaaPFnNumBytesx2
import Derived.Test.YtomeiaphaimjoaaPFnNumBytesx3
import Derived.Test.YtomeiaphaimjoaaPFnNumBytesx4
namespace Go.Proofs.Ytomeiaphaimjoaa.PFnNumBytes
open Go.RowKit Go.Proofs.YtomeiaphaimjoaaW.PrintWords Go.Proofs.YtomeiaphaimjoaaW.PrintLast Go.Proofs.YtomeiaphaimjoaaW.PrintMore
attribute [local go_sem] max2_int min2_int max_two min_two max_three min_three max_four min_four   -- for this text's walks alone
set_option linter.unusedVariables false
set_option linter.unusedSimpArgs false

/-! ### laws_FnNumBytes: function 12 -/
def laws_FnNumBytes.j0 : Nat → List Int → Bool → Option (Bool)
 | 0, _, _ => none
 | k + 1, x0, x58 => if x58 = true then (some false) else ((spec_DrawGetNum.f k x0).bind fun bt259 => ((impl_GetNum.f k bt259.1 bt259.2).bind fun bt263 => ((spec_GetNum.f k bt259.1 bt259.2).bind fun bt266 => (if (bt263.2.2 != bt266.2.2) = true then (some false) else (if bt263.2.1 = bt266.2.1 then (if bt263.2.2 = true then ((impl_PutNum.f k bt263.1).bind fun t269 => (if 0 ≤ bt259.2 then (if bt259.2 ≤ bt263.2.1 then (if bt263.2.1 ≤ (bt259.1.length : Int) then (some ((strOfNums t269).toList == (strOfNums ((bt259.1.take (bt263.2.1 : Int).toNat).drop (bt259.2 : Int).toNat)).toList)) else (none)) else (none)) else (none))) else (if bt263.1 = 0 then (if bt263.2.1 = 0 then (some true) else (some false)) else (some false))) else (some false))))))
def laws_FnNumBytes.f (k : Nat) (l0 : List Int) : Option (Bool) := (laws_big.f l0).bind fun t238 => (if t238 = true then (some true) else ((spec_DrawPutNum.f k l0).bind fun t239 => ((impl_PutNum.f k t239).bind fun t240 => ((spec_PutNum.f k t239).bind fun t243 => (if (strOfNums t240).toList = (strOfNums t243).toList then ((some (([] : List Int) : List Int)).bind fun y246 => (if y246.length + t240.length < 140737488355328 then ((some (y246 ++ t240 : List Int)).bind fun y249 => ((laws_at.f l0 1).bind fun t252 => (if y249.length < 140737488355328 then ((impl_GetNum.f k (y249 ++ [(t252) % 256]) 0).bind fun bt256 => (if (t240.length : Int) > 0 then (if bt256.2.2 = true then (if bt256.1 = t239 then (laws_FnNumBytes.j0 k l0 (bt256.2.1 != (t240.length : Int))) else (laws_FnNumBytes.j0 k l0 true)) else (laws_FnNumBytes.j0 k l0 true)) else (laws_FnNumBytes.j0 k l0 false))) else (none)))) else (none))) else (some false))))))
theorem laws_FnNumBytes.mono_l : ∀ k, (∀ y0 y1, LeO (laws_FnNumBytes.j0 k y0 y1) (laws_FnNumBytes.j0 (k + 1) y0 y1))
 | 0 => fun _ _ r h => by simp [laws_FnNumBytes.j0] at h
 | k + 1 => by
  have ih0 := laws_FnNumBytes.mono_l k
  ·intro y0 y1
   unfold laws_FnNumBytes.j0
   have m0 := @impl_GetNum.mono
   have m1 := @impl_PutNum.mono
   have m2 := @spec_DrawGetNum.mono
   have m3 := @spec_DrawPutNum.mono
   have m4 := @spec_GetNum.mono
   have m5 := @spec_PutNum.mono
   exact zm_
theorem laws_FnNumBytes.mono : ∀ a0 k, LeO (laws_FnNumBytes.f k a0) (laws_FnNumBytes.f (k + 1) a0) := by
 intro a0 k
 have ih0 := laws_FnNumBytes.mono_l k
 unfold laws_FnNumBytes.f
 have m0 := @impl_GetNum.mono
 have m1 := @impl_PutNum.mono
 have m2 := @spec_DrawGetNum.mono
 have m3 := @spec_DrawPutNum.mono
 have m4 := @spec_GetNum.mono
 have m5 := @spec_PutNum.mono
 exact zm_
def laws_FnNumBytes.T15 : Bool × List (List Nat × List Nat) := (true, [([], []), ([0], [0]), ([1], [1]), ([2], [2]), ([3, 2], [2, 3]), ([2, 4], [2, 4]), ([5, 2], [5]), ([6], [6]), ([7, 6], [6, 7]), ([6, 8], [6, 8]), ([9, 6], [9]), ([10], [10]), ([11, 10, 10], [10, 11]), ([12], [12]), ([13, 12, 12], [12, 13]), ([14, 12], [12, 14]), ([12], [12]), ([12], [12]), ([12], [12]), ([16, 17, 18, 12], [12, 16, 17, 18]), ([19, 12], [12, 19]), ([15, 20, 12], [12, 15, 20]), ([12, 21, 10], [10, 12, 21]), ([10, 22], [10, 22]), ([23, 14, 0, 1, 2, 3, 4, 5, 6, 7, 8, 9, 10, 11, 12, 13, 14, 15, 16, 17, 18, 19, 20, 21, 22, 23], [23])])
def laws_FnNumBytes.B15 : List Nat := [0, 1, 3, 7, 15, 31, 63, 127, 255, 511, 1023, 2047, 4095, 8191, 16383, 32767, 8191, 8191, 8191, 466943, 991231, 2097151, 4194303, 8388607, 16777215]
theorem laws_FnNumBytes.tab15 : rtab .any (opsOf Try.f12 15) = laws_FnNumBytes.T15 := by kernel_rfl
theorem laws_FnNumBytes.bits15 : waitsOk laws_FnNumBytes.T15.2 laws_FnNumBytes.B15 = true := by kernel_rfl
set_option maxHeartbeats 8000000 in
set_option maxRecDepth 100000 in
theorem laws_FnNumBytes.calls (k : Nat) (A0 : Option Addr) (c0 : Nat) (l0 : List Int) (r : Bool) (w : World) (hr0 : Kd.C (Kd.int .u8) w A0 l0.length l0) (hc0 : l0.length ≤ c0) (h : laws_FnNumBytes.f k l0 = some r) :
  Calls Try.prog 12 #[.slice A0 l0.length c0] w fun e w' => e = .returned (.bool r) ∧ Below w.heap.size w w' := by
 have HR0 := q_ hr0
 have HC0 := q_ hc0
 clear hr0 hc0
 have HB := q_ (Below.refl w.heap.size w)
 have H := h; clear h
 unfold laws_FnNumBytes.f at H
 replace H := bi_ H; obtain ⟨t238, A2, H⟩ := H
 have HC3 := q_ H
 clear H
 go_enter Try.func12, Try.ntmps12
 go_upto_if 17 with (first | ((with_reducible refine gate_callee (f := 42) rfl ?_); refine goesL_ (some 17) rfl rfl Try.func42 (by kernel_rfl) rfl #[.slice A0 l0.length c0] rfl z1_ ?_; (with_reducible refine (laws_big.calls _ _ l0 t238 _ ?side1 ?side2 A2.out).mono ?_); (case side1 => repeat (first | exact HR0.out | (with_reducible refine Kd.C_alloc ?_ _) | (with_reducible refine Kd.C_drewN ?_ _) | (with_reducible refine Kd.C_drew ?_))); (case side2 => exact HC0.out); rintro e w' ⟨rfl, ⟨nd, rfl⟩⟩; refine ⟨_, rfl, ?_⟩))
 (try simp only [Act.put, List.setIfInBounds_toArray, List.set_cons_zero, List.set_cons_succ])
 have H := HC3.out
 clear HC3
 replace H := kb_ H; rcases H with ⟨rfl, H⟩ | ⟨rfl, H⟩
 ·obtain rfl := si_ H
  go_wp2
  go_ret
  exact ⟨z4_, cb_⟩
 ·replace H := bi_ H; obtain ⟨t239, A5, H⟩ := H
  replace H := bi_ H; obtain ⟨t240, A6, H⟩ := H
  replace H := bi_ H; obtain ⟨t243, A7, H⟩ := H
  have HC8 := q_ H
  clear H
  try go_wp2_with (first | ((with_reducible refine gate_callee (f := 43) rfl ?_); refine goesL_ (some 19) rfl rfl Try.func43 (by kernel_rfl) rfl #[.slice A0 l0.length c0] rfl z1_ ?_; (with_reducible refine (spec_DrawPutNum.calls k _ _ l0 t239 _ ?side1 ?side2 A5.out).mono ?_); (case side1 => repeat (first | exact (Kd.C_below HR0.out cb_) | (with_reducible refine Kd.C_alloc ?_ _) | (with_reducible refine Kd.C_drewN ?_ _) | (with_reducible refine Kd.C_drew ?_))); (case side2 => exact HC0.out); rintro e w9 ⟨rfl, hb⟩; refine ⟨_, rfl, ?_⟩; replace HB := hb_ hb; (try clear hb); (try clear hb2); (try clear hk); (try clear hi)) | ((with_reducible refine gate_callee (f := 21) rfl ?_); refine goesL_ (some 21) rfl rfl Try.func21 (by kernel_rfl) rfl #[.int .i64 t239] rfl z1_ ?_; (with_reducible refine (impl_PutNum.calls k t239 t240 _ A6.out).mono ?_); rintro e w10 ⟨v241, rfl, ho0, hb⟩; refine ⟨_, rfl, ?_⟩; have HO242 := q_ (Kd.R_lower ho0 (below_size cb_)); replace HB := hb_ hb; (try clear hb); (try clear hb2); (try clear hk); (try clear hi); (try clear ho0)))
  replace HO242 := q_ (Kd.R_drew HO242.out)
  replace HB := q_ (below_drew1 HB.out)
  refine start_ (n := 6) (S := fun w' => ∃ ok_, Kd.R (Kd.int .u8) 5 w' w.heap.size ok_ v241 t240) (ds := []) (tf 0 6) (by kernel_rfl) rfl rfl ⟨_, HO242.out⟩ (fun hHeld => ?_)
  generalize w10.drew = w11 at HO242 HB hHeld ⊢
  refine pure_ (i := 0) (N := some 22) (v := ?_) (a' := ?_) (tf 1 5) rfl rfl (by kernel_rfl) (fun _ _ _ h => h) (Or.inl ⟨by rfl, ?_⟩) ?_ ?_
  rotate_left
  ·intro w'
   go_simp
   with_reducible rfl
  rotate_left
  ·simp only [Act.put, List.setIfInBounds_toArray, List.set_cons_zero, List.set_cons_succ, i64_w, i32_w]
   rfl
  refine take_ (i := 1) (N := some 23) (v := ?_) (a' := ?_) (tf 2 4) rfl rfl (by kernel_rfl) (fun _ _ _ h => h) (Or.inl ⟨by rfl, ?_⟩) hHeld ?_ ?_
  rotate_left
  ·rintro w' ⟨ok_, s0⟩
   have hcv12 := own_string (P := Try.prog) Try.underlying31 Try.underlying5 Try.underlying9 (Kd.own_of_R s0)
   go_simp
   with_reducible rfl
  rotate_left
  ·simp only [Act.put, List.setIfInBounds_toArray, List.set_cons_zero, List.set_cons_succ, i64_w, i32_w]
   rfl
  refine pure_ (i := 2) (N := some 24) (v := ?_) (a' := ?_) (tf 3 3) rfl rfl (by kernel_rfl) (fun _ _ _ h => h) (Or.inl ⟨by rfl, ?_⟩) ?_ ?_
  rotate_left
  ·intro w'
   go_simp
   with_reducible rfl
  rotate_left
  ·simp only [Act.put, List.setIfInBounds_toArray, List.set_cons_zero, List.set_cons_succ, i64_w, i32_w]
   rfl
  refine one_ (i := 3) (N := some 25) (tf 4 2) rfl rfl (by kernel_rfl) (by decide) (fun K hK => ?_)
  refine goes_ Try.func20 (by kernel_rfl) rfl #[.int .i64 t239] (by rfl) rfl rfl z1_ ?_
  with_reducible refine (spec_PutNum.calls k t239 t243 _ A7.out).mono ?_
  rintro e w13 ⟨v244, rfl, ho0, hb⟩
  refine ⟨_, rfl, ?_⟩
  have HO245 := q_ (Kd.R_lower (Kd.R_new' ho0 (Kd.R_lt z16_)) (below_size cb_))
  replace HO242 := q_ (Kd.R_elder' z16_ (Kd.R_base ho0) hb)
  replace HB := hb_ hb
  (try clear hb)
  (try clear hb2)
  (try clear hk)
  (try clear hi)
  (try clear ho0)
  refine hK.out _ _ ⟨_, HO242.out⟩ (fun hHeld => ?_)
  clear hK K
  refine norm_ (a' := ?_) ?_ ?_
  rotate_left
  ·show Act.put _ (some 25) _ = _
   simp only [Act.put, List.setIfInBounds_toArray, List.set_cons_zero, List.set_cons_succ, i64_w, i32_w]
   rfl
  refine one_ (i := 4) (N := some 26) (tf 5 1) rfl rfl (by kernel_rfl) (by decide) (fun K hK => ?_)
  have hcv14 := own_string (P := Try.prog) Try.underlying31 Try.underlying5 Try.underlying9 (Kd.own_of_R HO245.out)
  refine value_ (w1 := ?_) (v := ?_) (by rfl) rfl ?_ ?_
  rotate_left 2
  ·go_simp
   constructor
   ·rfl
   ·rfl
  clear hcv14
  refine hK.out _ _ ⟨_, HO242.out⟩ (fun hHeld => ?_)
  clear hK K
  refine norm_ (a' := ?_) ?_ ?_
  rotate_left
  ·show Act.put _ (some 26) _ = _
   simp only [Act.put, List.setIfInBounds_toArray, List.set_cons_zero, List.set_cons_succ, i64_w, i32_w]
   rfl
  refine pure_ (i := 5) (N := some 27) (v := ?_) (a' := ?_) (tf 6 0) rfl rfl (by kernel_rfl) (fun _ _ _ h => h) (Or.inl ⟨by rfl, ?_⟩) ?_ ?_
  rotate_left
  ·intro w'
   go_simp
   with_reducible rfl
  rotate_left
  ·simp only [Act.put, List.setIfInBounds_toArray, List.set_cons_zero, List.set_cons_succ, i64_w, i32_w]
   rfl
  refine done_ (by kernel_rfl) ?_
  go_upto_if 27 with (fail)
  have H := HC8.out
  clear HC8
  replace H := ke_ H; rcases H with ⟨c16b0, c16b1, H⟩ | ⟨c16, c16b0, c16b1, H⟩
  ·(first | rw [c16b0] | rw [c16b1] | (simp only [i64_w, i32_w]; first | rw [c16b0] | rw [c16b1]) | rw [c16b2] | skip)
   obtain ⟨y246, hy_⟩ : ∃ y_ : List Int, y_ = (([] : List Int)) := ⟨_, rfl⟩
   replace H : (if y246.length + t240.length < 140737488355328 then ((some (y246 ++ t240 : List Int)).bind fun y249 => ((laws_at.f l0 1).bind fun t252 => (if y249.length < 140737488355328 then ((impl_GetNum.f k (y249 ++ [(t252) % 256]) 0).bind fun bt256 => (if (t240.length : Int) > 0 then (if bt256.2.2 = true then (if bt256.1 = t239 then (laws_FnNumBytes.j0 k l0 (bt256.2.1 != (t240.length : Int))) else (laws_FnNumBytes.j0 k l0 true)) else (laws_FnNumBytes.j0 k l0 true)) else (laws_FnNumBytes.j0 k l0 false))) else (none)))) else (none)) = some r := z2_
   have Ny246 := q_ hy_
   clear hy_
   replace H := kln_ H; obtain ⟨LMc17, H⟩ := H
   obtain ⟨y249, hy_⟩ : ∃ y_ : List Int, y_ = (y246 ++ t240) := ⟨_, rfl⟩
   replace H : ((laws_at.f l0 1).bind fun t252 => (if y249.length < 140737488355328 then ((impl_GetNum.f k (y249 ++ [(t252) % 256]) 0).bind fun bt256 => (if (t240.length : Int) > 0 then (if bt256.2.2 = true then (if bt256.1 = t239 then (laws_FnNumBytes.j0 k l0 (bt256.2.1 != (t240.length : Int))) else (laws_FnNumBytes.j0 k l0 true)) else (laws_FnNumBytes.j0 k l0 true)) else (laws_FnNumBytes.j0 k l0 false))) else (none))) = some r := z2_
   have Ny249 := q_ hy_
   clear hy_
   replace H := bi_ H; obtain ⟨t252, A18, H⟩ := H
   replace H := kln_ H; obtain ⟨LMc19, H⟩ := H
   obtain ⟨y253, hy_⟩ : ∃ y_ : List Int, y_ = (y249 ++ [(t252) % 256]) := ⟨_, rfl⟩
   replace H : ((impl_GetNum.f k y253 0).bind fun bt256 => (if (t240.length : Int) > 0 then (if bt256.2.2 = true then (if bt256.1 = t239 then (laws_FnNumBytes.j0 k l0 (bt256.2.1 != (t240.length : Int))) else (laws_FnNumBytes.j0 k l0 true)) else (laws_FnNumBytes.j0 k l0 true)) else (laws_FnNumBytes.j0 k l0 false))) = some r := z2_
   have Ny253 := q_ hy_
   clear hy_
   replace H := bi_ H; obtain ⟨⟨t256, t257, t258⟩, A20, H⟩ := H
   (try dsimp only at H)
   have HC21 := q_ H
   clear H
   go_upto_region 8 with (first | ((with_reducible refine gate_dst (N := 29) rfl ?_); (try (refine gate_guard (by rfl) ?_; dsimp only)); refine Kd.R_lit (Kd.int .u8) _ 5 ?hg (N := 29) ?hd (xs := ([] : List Int)) (inner := []) (ok := fun _ => True) (okp := fun _ => True) ?hr ?hp (fun _ hk => hk) trivial (Below.refl _ _) (Nat.le_refl _) (by simp) ?_; (case hd => rfl); (case hg => rfl); (case hr => exact z45_); (case hp => exact (Reps.none _ _)); intro v247 w22 ho23 hb hg_ hnew_; clear hg_ hnew_; (first | rw [← Ny246.out] at ho23 | (simp only [Int.reduceToNat] at ho23; rw [← Ny246.out] at ho23)); have HO248 := q_ (Kd.R_lower (Kd.R_new' (Kd.R_new' ho23 (Kd.R_lt z16_)) (Kd.R_lt z18_)) (below_size cb_)); replace HO242 := q_ (Kd.R_elder' z16_ (Kd.R_base ho23) hb); replace HO245 := q_ (Kd.R_elder' z18_ (Kd.R_base ho23) hb); replace HB := hb_ hb; clear hb ho23; obtain ⟨Ao25, co25, eo25⟩ := Kd.R_slice HO242.out; subst eo25) | ((with_reducible refine gate_builtin (b := .append) (xs := #[.tmp 29, .tmp 30]) rfl ?_); (try (refine gate_guard (by rfl) ?_; dsimp only)); at_builtin; refine Kd.R_append_rows (Kd.int .u8) (w0 := w) w.heap.size rfl (.tmp 29) (.tmp 30) 31 5 (.int .u8 0) 1 rfl Try.underlying31 info5 rfl (by decide) (by omega) v247 y246 t240 _ _ _ (fun k_ => some k_ ≠ (.slice Ao25 t240.length co25 : Value).ownBlock ∧ some k_ ≠ (v244 : Value).ownBlock) (fun _ => False) rfl rfl ?aO ?aR (fun _ _ h => h) (fun _ h => h.elim) ?aF ?aB ?aS ?aL ?_; (case aR => repeat (first | exact (Kd.R_reads' HO242.out).2.2 | (with_reducible refine Kd.C_alloc ?_ _) | (with_reducible refine Kd.C_drewN ?_ _) | (with_reducible refine Kd.C_drew ?_))); (case aB => exact cb_); (case aF => exact z49_); (case aO => exact (by (with_reducible repeat (first | apply Kd.R_alloc | apply Kd.R_drewN | apply Kd.R_drew)); exact Kd.R_mono HO248.out (fun _ hk => ⟨hk.1.2, hk.2⟩))); (case aS => exact (below_size cb_)); (case aL => have := LMc17.out; omega); intro v250 w24 ho hb hg hat; rw [← Ny249.out] at ho; replace HO242 := q_ (Kd.R_after (ok := (fun k_ => some k_ ≠ (v244 : Value).ownBlock)) (Kd.R_mono z16_ (fun _ hk_ => by first | exact hk_ | simpa using hk_)) hg hat); replace HO245 := q_ (Kd.R_after (ok := (fun k_ => some k_ ≠ (.slice Ao25 t240.length co25 : Value).ownBlock)) (Kd.R_mono z18_ (fun _ hk_ => by first | exact hk_ | simpa using hk_)) hg hat); replace HB := q_ (hb); have HO251 := q_ (ho); clear HO248; clear ho hb hg hat) | ((with_reducible refine gate_callee (f := 44) rfl ?_); refine goesL_ (some 33) rfl rfl Try.func44 (by kernel_rfl) rfl #[.slice A0 l0.length c0, .int .i64 1] rfl z1_ ?_; (with_reducible refine (laws_at.calls _ _ l0 1 t252 _ ?side1 ?side2 A18.out).mono ?_); (case side1 => exact z44_); (case side2 => exact HC0.out); rintro e w' ⟨rfl, ⟨nd, rfl⟩⟩; refine ⟨_, rfl, ?_⟩) | ((with_reducible refine gate_builtin (b := .append) (xs := #[.tmp 31, .tmp 35]) rfl ?_); (try (refine gate_guard (by rfl) ?_; dsimp only)); at_builtin; refine Kd.R_append (Kd.int .u8) (w0 := w) w.heap.size rfl (.tmp 31) (.tmp 35) 31 5 (.int .u8 0) 1 rfl Try.underlying31 info5 rfl (by decide) (by omega) v250 y249 ((t252) % 256) [.int .u8 ((t252) % 256)] (fun k_ => some k_ ≠ (.slice Ao25 t240.length co25 : Value).ownBlock ∧ some k_ ≠ (v244 : Value).ownBlock) (fun _ => False) rfl rfl ?aP (fun _ hk => hk.elim) ?aF ?aO ?aB ?aS ?aL ?_; (case aP => exact rfl); (case aB => exact cb_); (case aF => exact z49_); (case aO => exact (by (with_reducible repeat (first | apply Kd.R_alloc | apply Kd.R_drewN | apply Kd.R_drew)); exact HO251.out)); (case aS => exact (below_size cb_)); (case aL => have := LMc19.out; omega); intro v254 w26 ho hb hg hat; rw [← Ny253.out] at ho; replace HO242 := q_ (Kd.R_after (ok := (fun k_ => some k_ ≠ (v244 : Value).ownBlock)) (Kd.R_mono z16_ (fun _ hk_ => by first | exact hk_ | simpa using hk_)) hg hat); replace HO245 := q_ (Kd.R_after (ok := (fun k_ => some k_ ≠ (.slice Ao25 t240.length co25 : Value).ownBlock)) (Kd.R_mono z18_ (fun _ hk_ => by first | exact hk_ | simpa using hk_)) hg hat); replace HB := q_ (hb); have HO255 := q_ (ho); clear HO251; clear ho hb hg hat; obtain ⟨Ao27, co27, eo27⟩ := Kd.R_slice HO255.out; subst eo27) | ((with_reducible refine gate_callee (f := 34) rfl ?_); refine goesL_ (some 37) rfl rfl Try.func34 (by kernel_rfl) rfl #[.slice Ao27 y253.length co27, .int .i64 0] rfl z1_ ?_; (with_reducible refine (impl_GetNum.calls k _ _ y253 0 t256 t257 t258 _ ?side1 ?side2 A20.out).mono ?_); (case side1 => repeat (first | exact (Kd.R_reads' HO255.out).2.2 | (with_reducible refine Kd.C_alloc ?_ _) | (with_reducible refine Kd.C_drewN ?_ _) | (with_reducible refine Kd.C_drew ?_))); (case side2 => exact (Kd.R_reads' HO255.out).2.1); rintro e w' ⟨rfl, ⟨nd, rfl⟩⟩; refine ⟨_, rfl, ?_⟩))
   (try simp only [Act.put, List.setIfInBounds_toArray, List.set_cons_zero, List.set_cons_succ])
   go_cut [58] (fun v58 wc => ∃ (kq : Nat) (x58_20 : Bool), v58 = .bool x58_20 ∧ Aside0 (laws_FnNumBytes.j0 kq l0 x58_20 = some r) ∧ Aside0 (kq ≤ k) ∧ Aside0 (Below w.heap.size w wc))
   case first =>
    have H := HC21.out
    clear HC21
    replace H := kg_ H; rcases H with ⟨c28b0, H⟩ | ⟨c28b0, H⟩
    ·have c28b1 : decide (0 < t240.length) = true := decide_eq_true (by have := of_decide_eq_true c28b0; omega)
     (first | rw [c28b0] | rw [c28b1] | (simp only [i64_w, i32_w]; first | rw [c28b0] | rw [c28b1]) | rw [c28b2] | skip)
     replace H := kb_ H; rcases H with ⟨rfl, H⟩ | ⟨rfl, H⟩
     ·replace H := ke_ H; rcases H with ⟨c30b0, c30b1, H⟩ | ⟨c30, c30b0, c30b1, H⟩
      ·have H' := q_ H
       clear H
       go_wp2
       go_meet
       case rel => exact ⟨_, ((t257 != (t240.length : Int))), z10_, H', ⟨z24_⟩, ⟨cb_⟩⟩
      ·have H' := q_ H
       clear H
       go_wp2
       go_meet
       case rel => exact ⟨_, (true), z10_, H', ⟨z24_⟩, ⟨cb_⟩⟩
     ·have H' := q_ H
      clear H
      go_wp2
      go_meet
      case rel => exact ⟨_, (true), z10_, H', ⟨z24_⟩, ⟨cb_⟩⟩
    ·have c28b1 : decide (0 < t240.length) = false := decide_eq_false (by have := of_decide_eq_false c28b0; omega)
     (first | rw [c28b0] | rw [c28b1] | (simp only [i64_w, i32_w]; first | rw [c28b0] | rw [c28b1]) | rw [c28b2] | skip)
     have H' := q_ H
     clear H
     go_wp2
     go_meet
     case rel => exact ⟨_, (false), z10_, H', ⟨z24_⟩, ⟨cb_⟩⟩
   case rest =>
    clear HC21
    try clear c1
    try clear hcv1
    try clear c2
    try clear p2
    try clear c3
    try clear c4
    try clear c12
    try clear hcv12
    try clear hcv14
    try clear c16
    try clear c16b0
    try clear c16b1
    try clear c16b2
    try clear c17
    try clear c19
    try clear c20
    try clear c21
    try clear c28
    try clear c28b0
    try clear c28b1
    try clear c28b2
    try clear c29
    try clear c30
    try clear c30b0
    try clear c30b1
    obtain ⟨kq, x58_20, rfl, HA, HJ20, HB⟩ := hcut
    obtain ⟨kj20, rfl, H⟩ := rn_ (k := kq) HA (by rintro rfl; simp only [laws_FnNumBytes.j0])
    clear HA
    simp only [laws_FnNumBytes.j0] at H
    replace H := kb_ H; rcases H with ⟨rfl, H⟩ | ⟨rfl, H⟩
    ·obtain rfl := si_ H
     go_wp2
     go_ret
     exact ⟨z4_, cb_⟩
    ·replace H := bi_ H; obtain ⟨⟨t259, t260⟩, A32, H⟩ := H
     (try dsimp only at H)
     replace H := bi_ H; obtain ⟨⟨t263, t264, t265⟩, A33, H⟩ := H
     (try dsimp only at H)
     replace H := bi_ H; obtain ⟨⟨t266, t267, t268⟩, A34, H⟩ := H
     (try dsimp only at H)
     by_cases c35 : (t265 != t268) = true
     ·rw [if_pos c35] at H
      have c35b0 : (t265 != t268) = true := c35
      (try (have c35b1 : decide (t265 = t268) = false := z37_))
      (try (have c35b2 : (t265 == t268) = false := z37_))
      (try (have c35b3 : ¬ (t265 = t268) := z37_))
      clear c35
      obtain rfl := si_ H
      go_wp2_with (first | ((with_reducible refine gate_callee (f := 45) rfl ?_); refine goesL_ (some 61) rfl rfl Try.func45 (by kernel_rfl) rfl #[.slice A0 l0.length c0] rfl z1_ ?_; (with_reducible refine (spec_DrawGetNum.calls kj20 _ _ l0 t259 t260 _ ?side1 ?side2 A32.out).mono ?_); (case side1 => exact z44_); (case side2 => exact HC0.out); rintro e w36 ⟨v261, rfl, ho0, hb⟩; refine ⟨_, rfl, ?_⟩; have HO262 := q_ (Kd.R_lower ho0 (below_size cb_)); replace HB := hb_ hb; (try clear hb); (try clear hb2); (try clear hk); (try clear hi); (try clear ho0); obtain ⟨Ao37, co37, eo37⟩ := Kd.R_slice HO262.out; subst eo37) | ((with_reducible refine gate_callee (f := 34) rfl ?_); refine goesL_ (some 67) rfl rfl Try.func34 (by kernel_rfl) rfl #[.slice Ao37 t259.length co37, .int .i64 t260] rfl z1_ ?_; (with_reducible refine (impl_GetNum.calls kj20 _ _ t259 t260 t263 t264 t265 _ ?side1 ?side2 A33.out).mono ?_); (case side1 => exact z43_); (case side2 => exact z50_); rintro e w' ⟨rfl, ⟨nd, rfl⟩⟩; refine ⟨_, rfl, ?_⟩) | ((with_reducible refine gate_callee (f := 32) rfl ?_); refine goesL_ (some 74) rfl rfl Try.func32 (by kernel_rfl) rfl #[.slice Ao37 t259.length co37, .int .i64 t260] rfl z1_ ?_; (with_reducible refine (spec_GetNum.calls kj20 _ _ t259 t260 t266 t267 t268 _ ?side1 ?side2 A34.out).mono ?_); (case side1 => exact z43_); (case side2 => exact z50_); rintro e w38 ⟨rfl, hb⟩; refine ⟨_, rfl, ?_⟩; replace HO262 := q_ (Kd.R_below z22_ hb); replace HB := hb_ hb; (try clear hb); (try clear hb2); (try clear hk); (try clear hi)))
      go_ret
      exact ⟨z4_, cb_⟩
     ·rw [if_neg c35] at H
      have c35b0 : (t265 != t268) = false := z37_
      (try (have c35b1 : decide (t265 = t268) = true := z37_))
      (try (have c35b2 : (t265 == t268) = true := z37_))
      clear c35
      have HC39 := q_ H
      clear H
      go_upto_if 85 with (first | ((with_reducible refine gate_callee (f := 45) rfl ?_); refine goesL_ (some 61) rfl rfl Try.func45 (by kernel_rfl) rfl #[.slice A0 l0.length c0] rfl z1_ ?_; (with_reducible refine (spec_DrawGetNum.calls kj20 _ _ l0 t259 t260 _ ?side1 ?side2 A32.out).mono ?_); (case side1 => exact z44_); (case side2 => exact HC0.out); rintro e w40 ⟨v261, rfl, ho0, hb⟩; refine ⟨_, rfl, ?_⟩; have HO262 := q_ (Kd.R_lower ho0 (below_size cb_)); replace HB := hb_ hb; (try clear hb); (try clear hb2); (try clear hk); (try clear hi); (try clear ho0); obtain ⟨Ao41, co41, eo41⟩ := Kd.R_slice HO262.out; subst eo41) | ((with_reducible refine gate_callee (f := 34) rfl ?_); refine goesL_ (some 67) rfl rfl Try.func34 (by kernel_rfl) rfl #[.slice Ao41 t259.length co41, .int .i64 t260] rfl z1_ ?_; (with_reducible refine (impl_GetNum.calls kj20 _ _ t259 t260 t263 t264 t265 _ ?side1 ?side2 A33.out).mono ?_); (case side1 => exact z43_); (case side2 => exact z50_); rintro e w' ⟨rfl, ⟨nd, rfl⟩⟩; refine ⟨_, rfl, ?_⟩) | ((with_reducible refine gate_callee (f := 32) rfl ?_); refine goesL_ (some 74) rfl rfl Try.func32 (by kernel_rfl) rfl #[.slice Ao41 t259.length co41, .int .i64 t260] rfl z1_ ?_; (with_reducible refine (spec_GetNum.calls kj20 _ _ t259 t260 t266 t267 t268 _ ?side1 ?side2 A34.out).mono ?_); (case side1 => exact z43_); (case side2 => exact z50_); rintro e w42 ⟨rfl, hb⟩; refine ⟨_, rfl, ?_⟩; replace HO262 := q_ (Kd.R_below z22_ hb); replace HB := hb_ hb; (try clear hb); (try clear hb2); (try clear hk); (try clear hi)))
      (try simp only [Act.put, List.setIfInBounds_toArray, List.set_cons_zero, List.set_cons_succ])
      have H := HC39.out
      clear HC39
      replace H := ke_ H; rcases H with ⟨c43b0, c43b1, H⟩ | ⟨c43, c43b0, c43b1, H⟩
      ·(first | rw [c43b0] | rw [c43b1] | (simp only [i64_w, i32_w]; first | rw [c43b0] | rw [c43b1]) | rw [c43b2] | skip)
       replace H := kb_ H; rcases H with ⟨rfl, H⟩ | ⟨rfl, H⟩
       ·replace H := bi_ H; obtain ⟨t269, A45, H⟩ := H
        replace H := ktn_ H; obtain ⟨c46b0, c46b1, H⟩ := H
        replace H := ktn_ H; obtain ⟨c47b0, c47b1, H⟩ := H
        replace H := ktn_ H; obtain ⟨c48b0, c48b1, H⟩ := H
        obtain ⟨y272, hy_⟩ : ∃ y_ : List Int, y_ = ((t259.take (t264 : Int).toNat).drop (t260 : Int).toNat) := ⟨_, rfl⟩
        replace H : (some ((strOfNums t269).toList == (strOfNums y272).toList)) = some r := z2_
        have Ny272 := q_ hy_
        clear hy_
        obtain rfl := si_ H
        try go_wp2
        replace HO262 := q_ (Kd.R_drew HO262.out)
        replace HB := q_ (below_drew1 HB.out)
        have q50 : (t264 : Int) ≤ ((t259.length : Int) : Int) := of_decide_eq_true z5_
        obtain ⟨i050, hi050, _, hsz50, _⟩ := info_parts info5
        have hroom50 : t259.length ≤ co41 := (Kd.R_reads' HO262.out).2.1
        have hC50 : Kd.C (Kd.int .u8) _ Ao41 t259.length t259 := (Kd.R_reads' HO262.out).2.2
        have ql50 : (t260 : Int) ≤ (t264 : Int) := of_decide_eq_true z5_
        have q050 : (0 : Int) ≤ (t260 : Int) := of_decide_eq_true z5_
        have hcut50 := cut_mid (P := Try.prog) 31 5 .i64 .i64 Try.underlying31 hi050 1 hsz50 Ao41 t259.length co41 t260 t264 q050 ql50 q50 hroom50
        have hr50 := Kd.C_mid (lo := (t260 : Int).toNat) (hi := (t264 : Int).toNat) (c := co41) hC50 (by omega) (by omega) hroom50
        obtain ⟨A50, hA50⟩ : ∃ A1, A1 = (if co41 = (t260 : Int).toNat then Ao41 else (Ao41 : Option Addr).map (·.add ((t260 : Int).toNat * 1))) := ⟨_, rfl⟩
        obtain ⟨c50, hc50⟩ : ∃ c1, c1 = co41 - (t260 : Int).toNat := ⟨_, rfl⟩
        have hy50 : y272.length = (t264 : Int).toNat - (t260 : Int).toNat := (by rw [Ny272.out, List.length_drop, List.length_take] <;> omega)
        rw [show ((t259).take (t264 : Int).toNat).drop (t260 : Int).toNat = y272 from Ny272.out.symm] at hr50
        replace hr50 : Kd.C (Kd.int .u8) _ A50 y272.length y272 := (by rw [hA50]; exact hr50)
        rw [← hy50, ← hA50, ← hc50] at hcut50
        have HR275 := q_ hr50
        have HC275 := q_ (show y272.length ≤ c50 from by rw [hy50, hc50]; exact Nat.sub_le_sub_right (Nat.le_trans (by omega) hroom50) _)
        clear hr50 hC50 hroom50 hi050 hsz50 hc50
        have KY50 := q_ hy50
        have KA50 := q_ hA50
        clear hy50 hA50
        have KL50 := q_ (show (t264 : Int).toNat ≤ t259.length from by omega)
        have KM50 := q_ (show (t260 : Int).toNat ≤ (t264 : Int).toNat from by omega)
        replace q50 := eq_true q50
        refine start_ (n := 25) (S := fun w' => Kd.C (Kd.int .u8) w' A50 y272.length y272) (ds := []) (tf 0 25) (by kernel_rfl) rfl rfl HR275.out (fun hHeld => ?_); refine with_tabW laws_FnNumBytes.tab15 laws_FnNumBytes.bits15 (fun HT_ HW_ => ?_)
        generalize w42.drew = w49 at HO262 HB HR275 hHeld ⊢
        refine p1_ 0 (some 86) (tf 1 24) HT_.out ?_
        refine p1_ 1 (some 87) (tf 2 23) HT_.out ?_
        refine p1_ 2 (some 88) (tf 3 22) HT_.out ?_
        refine p2_ 3 (some 89) (tf 4 21) HT_.out ?_
        refine p2_ 4 (some 90) (tf 5 20) HT_.out ?_
        refine p1_ 5 (some 91) (tf 6 19) HT_.out ?_
        refine p1_ 6 (some 92) (tf 7 18) HT_.out ?_
        refine p2_ 7 (some 93) (tf 8 17) HT_.out ?_
        refine p2_ 8 (some 94) (tf 9 16) HT_.out ?_
        refine p1_ 9 (some 95) (tf 10 15) HT_.out ?_
        refine p1_ 10 (some 96) (tf 11 14) HT_.out ?_
        refine p1_ 11 (some 97) (tf 12 13) HT_.out ?_
        refine p1_ 12 (some 98) (tf 13 12) HT_.out ?_
        refine p1_ 13 (some 99) (tf 14 11) HT_.out ?_
        refine p1_ 16 (some 102) #[true, true, true, true, true, true, true, true, true, true, true, true, true, true, false, false, true, false, false, false, false, false, false, false, false] HT_.out ?_
        refine p1_ 17 (some 103) #[true, true, true, true, true, true, true, true, true, true, true, true, true, true, false, false, true, true, false, false, false, false, false, false, false] HT_.out ?_
        refine p1_ 18 (some 104) #[true, true, true, true, true, true, true, true, true, true, true, true, true, true, false, false, true, true, true, false, false, false, false, false, false] HT_.out ?_
        refine p1_ 19 (some 105) #[true, true, true, true, true, true, true, true, true, true, true, true, true, true, false, false, true, true, true, true, false, false, false, false, false] HT_.out ?_
        refine take_ (i := 20) (N := some 106) (v := ?_) (a' := ?_) #[true, true, true, true, true, true, true, true, true, true, true, true, true, true, false, false, true, true, true, true, true, false, false, false, false] rfl rfl (take_ofW HT_.out HW_.out (by kernel_rfl)) (fun _ _ _ h => h) (Or.inl ⟨by rfl, ?_⟩) hHeld ?_ ?_
        rotate_left
        ·intro w' s0
         have hcv := Kd.C_string (P := Try.prog) (A := A50) (c := c50) Try.underlying31 Try.underlying5 Try.underlying9 s0
         go_simp
         with_reducible rfl
        rotate_left
        ·simp only [Act.put, List.setIfInBounds_toArray, List.set_cons_zero, List.set_cons_succ, i64_w, i32_w]
         rfl
        refine one_ (i := 14) (N := some 100) #[true, true, true, true, true, true, true, true, true, true, true, true, true, true, true, false, true, true, true, true, true, false, false, false, false] rfl rfl (one_of HT_.out (by kernel_rfl)) (by decide) (fun K hK => ?_)
        refine goes_ Try.func21 (by kernel_rfl) rfl #[.int .i64 t263] (by rfl) rfl rfl z1_ ?_
        with_reducible refine (impl_PutNum.calls kj20 t263 t269 _ A45.out).mono ?_
        rintro e w51 ⟨v270, rfl, ho0, hb⟩
        refine ⟨_, rfl, ?_⟩
        have HO271 := q_ (Kd.R_lower (Kd.R_new' ho0 (Kd.R_lt z22_)) (below_size cb_))
        replace HO262 := q_ (Kd.R_elder' z22_ (Kd.R_base ho0) hb)
        replace HR275 := q_ (Kd.C_below z23_ hb)
        replace HB := hb_ hb
        (try clear hb)
        (try clear hb2)
        (try clear hk)
        (try clear hi)
        (try clear ho0)
        have hcv53 := Kd.C_string (P := Try.prog) (A := A50) (c := c50) Try.underlying31 Try.underlying5 Try.underlying9 z23_
        refine hK.out _ _ HR275.out (fun hHeld => ?_)
        clear hK K
        refine norm_ (a' := ?_) ?_ ?_
        rotate_left
        ·show Act.put _ (some 100) _ = _
         simp only [Act.put, List.setIfInBounds_toArray, List.set_cons_zero, List.set_cons_succ, i64_w, i32_w]
         rfl
        refine one_ (i := 15) (N := some 101) (tf 21 4) rfl rfl (one_of HT_.out (by kernel_rfl)) (by decide) (fun K hK => ?_)
        have hcv52 := own_string (P := Try.prog) Try.underlying31 Try.underlying5 Try.underlying9 (Kd.own_of_R HO271.out)
        refine value_ (w1 := ?_) (v := ?_) (by rfl) rfl ?_ ?_
        rotate_left 2
        ·go_simp
         constructor
         ·rfl
         ·rfl
        clear hcv52
        refine hK.out _ _ HR275.out (fun hHeld => ?_)
        clear hK K
        refine norm_ (a' := ?_) ?_ ?_
        rotate_left
        ·show Act.put _ (some 101) _ = _
         simp only [Act.put, List.setIfInBounds_toArray, List.set_cons_zero, List.set_cons_succ, i64_w, i32_w]
         rfl
        refine p1_ 21 (some 107) (tf 22 3) HT_.out ?_
        refine p1_ 22 (some 108) (tf 23 2) HT_.out ?_
        refine p1_ 23 (some 109) (tf 24 1) HT_.out ?_
        refine p1_ 24 (some 2) (tf 25 0) HT_.out ?_
        refine done_ (done_of HT_.out (by kernel_rfl)) ?_
        try go_wp2
        go_ret
        exact ⟨z4_, cb_⟩
       ·replace H := ke_ H; rcases H with ⟨c55b0, c55b1, H⟩ | ⟨c55, c55b0, c55b1, H⟩
        ·replace H := ke_ H; rcases H with ⟨c56b0, c56b1, H⟩ | ⟨c56, c56b0, c56b1, H⟩
         ·obtain rfl := si_ H
          try go_wp2
          replace HO262 := q_ (Kd.R_drew HO262.out)
          replace HB := q_ (below_drew1 HB.out)
          refine start_ (n := 25) (S := fun w' => True) (ds := []) (tf 0 25) (by kernel_rfl) rfl rfl trivial (fun hHeld => ?_); refine with_tabW laws_FnNumBytes.tab15 laws_FnNumBytes.bits15 (fun HT_ HW_ => ?_)
          generalize w42.drew = w57 at HO262 HB hHeld ⊢
          refine p1_ 0 (some 86) (tf 1 24) HT_.out ?_
          refine p1_ 1 (some 87) (tf 2 23) HT_.out ?_
          refine p1_ 2 (some 88) (tf 3 22) HT_.out ?_
          refine p1_ 3 (some 89) (tf 4 21) HT_.out ?_
          refine p1_ 4 (some 90) (tf 5 20) HT_.out ?_
          refine p1_ 5 (some 91) (tf 6 19) HT_.out ?_
          refine p1_ 6 (some 92) (tf 7 18) HT_.out ?_
          refine p1_ 7 (some 93) (tf 8 17) HT_.out ?_
          refine p1_ 8 (some 94) (tf 9 16) HT_.out ?_
          refine p1_ 9 (some 95) (tf 10 15) HT_.out ?_
          refine p1_ 10 (some 96) (tf 11 14) HT_.out ?_
          refine p2_ 11 (some 97) (tf 12 13) HT_.out ?_
          refine p2_ 12 (some 98) (tf 13 12) HT_.out ?_
          refine p2_ 13 (some 99) (tf 14 11) HT_.out ?_
          refine p2_ 14 (some 100) (tf 15 10) HT_.out ?_
          refine p2_ 15 (some 101) (tf 16 9) HT_.out ?_
          refine p2_ 16 (some 102) (tf 17 8) HT_.out ?_
          refine p2_ 17 (some 103) (tf 18 7) HT_.out ?_
          refine p2_ 18 (some 104) (tf 19 6) HT_.out ?_
          refine p2_ 19 (some 105) (tf 20 5) HT_.out ?_
          refine p2_ 20 (some 106) (tf 21 4) HT_.out ?_
          refine p2_ 21 (some 107) (tf 22 3) HT_.out ?_
          refine p2_ 22 (some 108) (tf 23 2) HT_.out ?_
          refine p1_ 23 (some 109) (tf 24 1) HT_.out ?_
          refine p1_ 24 (some 2) (tf 25 0) HT_.out ?_
          refine done_ (done_of HT_.out (by kernel_rfl)) ?_
          try go_wp2
          go_ret
          exact ⟨z4_, cb_⟩
         ·obtain rfl := si_ H
          try go_wp2
          replace HO262 := q_ (Kd.R_drew HO262.out)
          replace HB := q_ (below_drew1 HB.out)
          refine start_ (n := 25) (S := fun w' => True) (ds := []) (tf 0 25) (by kernel_rfl) rfl rfl trivial (fun hHeld => ?_); refine with_tabW laws_FnNumBytes.tab15 laws_FnNumBytes.bits15 (fun HT_ HW_ => ?_)
          generalize w42.drew = w58 at HO262 HB hHeld ⊢
          refine p1_ 0 (some 86) (tf 1 24) HT_.out ?_
          refine p1_ 1 (some 87) (tf 2 23) HT_.out ?_
          refine p1_ 2 (some 88) (tf 3 22) HT_.out ?_
          refine p1_ 3 (some 89) (tf 4 21) HT_.out ?_
          refine p1_ 4 (some 90) (tf 5 20) HT_.out ?_
          refine p1_ 5 (some 91) (tf 6 19) HT_.out ?_
          refine p1_ 6 (some 92) (tf 7 18) HT_.out ?_
          refine p1_ 7 (some 93) (tf 8 17) HT_.out ?_
          refine p1_ 8 (some 94) (tf 9 16) HT_.out ?_
          refine p1_ 9 (some 95) (tf 10 15) HT_.out ?_
          refine p1_ 10 (some 96) (tf 11 14) HT_.out ?_
          refine p1_ 11 (some 97) (tf 12 13) HT_.out ?_
          refine p1_ 12 (some 98) (tf 13 12) HT_.out ?_
          refine p2_ 13 (some 99) (tf 14 11) HT_.out ?_
          refine p2_ 14 (some 100) (tf 15 10) HT_.out ?_
          refine p2_ 15 (some 101) (tf 16 9) HT_.out ?_
          refine p2_ 16 (some 102) (tf 17 8) HT_.out ?_
          refine p2_ 17 (some 103) (tf 18 7) HT_.out ?_
          refine p2_ 18 (some 104) (tf 19 6) HT_.out ?_
          refine p2_ 19 (some 105) (tf 20 5) HT_.out ?_
          refine p2_ 20 (some 106) (tf 21 4) HT_.out ?_
          refine p2_ 21 (some 107) (tf 22 3) HT_.out ?_
          refine p1_ 22 (some 108) (tf 23 2) HT_.out ?_
          refine p1_ 23 (some 109) (tf 24 1) HT_.out ?_
          refine p1_ 24 (some 2) (tf 25 0) HT_.out ?_
          refine done_ (done_of HT_.out (by kernel_rfl)) ?_
          try go_wp2
          go_ret
          exact ⟨z4_, cb_⟩
        ·obtain rfl := si_ H
         try go_wp2
         replace HO262 := q_ (Kd.R_drew HO262.out)
         replace HB := q_ (below_drew1 HB.out)
         refine start_ (n := 25) (S := fun w' => True) (ds := []) (tf 0 25) (by kernel_rfl) rfl rfl trivial (fun hHeld => ?_); refine with_tabW laws_FnNumBytes.tab15 laws_FnNumBytes.bits15 (fun HT_ HW_ => ?_)
         generalize w42.drew = w59 at HO262 HB hHeld ⊢
         refine p1_ 0 (some 86) (tf 1 24) HT_.out ?_
         refine p1_ 1 (some 87) (tf 2 23) HT_.out ?_
         refine p1_ 2 (some 88) (tf 3 22) HT_.out ?_
         refine p1_ 3 (some 89) (tf 4 21) HT_.out ?_
         refine p1_ 4 (some 90) (tf 5 20) HT_.out ?_
         refine p1_ 5 (some 91) (tf 6 19) HT_.out ?_
         refine p1_ 6 (some 92) (tf 7 18) HT_.out ?_
         refine p2_ 7 (some 93) (tf 8 17) HT_.out ?_
         refine p2_ 8 (some 94) (tf 9 16) HT_.out ?_
         refine p1_ 9 (some 95) (tf 10 15) HT_.out ?_
         refine p1_ 10 (some 96) (tf 11 14) HT_.out ?_
         refine p1_ 11 (some 97) (tf 12 13) HT_.out ?_
         refine p1_ 12 (some 98) (tf 13 12) HT_.out ?_
         refine p2_ 13 (some 99) (tf 14 11) HT_.out ?_
         refine p2_ 14 (some 100) (tf 15 10) HT_.out ?_
         refine p2_ 15 (some 101) (tf 16 9) HT_.out ?_
         refine p2_ 16 (some 102) (tf 17 8) HT_.out ?_
         refine p2_ 17 (some 103) (tf 18 7) HT_.out ?_
         refine p2_ 18 (some 104) (tf 19 6) HT_.out ?_
         refine p2_ 19 (some 105) (tf 20 5) HT_.out ?_
         refine p2_ 20 (some 106) (tf 21 4) HT_.out ?_
         refine p2_ 21 (some 107) (tf 22 3) HT_.out ?_
         refine p1_ 22 (some 108) (tf 23 2) HT_.out ?_
         refine p1_ 23 (some 109) (tf 24 1) HT_.out ?_
         refine p1_ 24 (some 2) (tf 25 0) HT_.out ?_
         refine done_ (done_of HT_.out (by kernel_rfl)) ?_
         try go_wp2
         go_ret
         exact ⟨z4_, cb_⟩
      ·(first | rw [c43b0] | rw [c43b1] | (simp only [i64_w, i32_w]; first | rw [c43b0] | rw [c43b1]) | rw [c43b2] | skip)
       obtain rfl := si_ H
       go_wp2
       go_ret
       exact ⟨z4_, cb_⟩
  ·(first | rw [c16b0] | rw [c16b1] | (simp only [i64_w, i32_w]; first | rw [c16b0] | rw [c16b1]) | rw [c16b2] | skip)
   obtain rfl := si_ H
   go_wp2
   go_ret
   exact ⟨z4_, cb_⟩

/-- THE ONE PURE STATEMENT of laws_FnNumBytes: yours. -/
def laws_FnNumBytes.Pure : Prop := ∀ (l0 : List Int), l0.length ≤ maxLen → l0.length * 1 ≤ 140737488351232 → (∀ x ∈ l0, (Lit.int .u8 x).wf = true) → ∃ k, laws_FnNumBytes.f k l0 = some true
theorem laws_FnNumBytes.walk (P : laws_FnNumBytes.Pure) (a0 : Option Addr) (len0 cap0 : Nat) (z0 : List Int) (w : World) (w0 : (a0 = none ∧ len0 = 0 ∧ cap0 = 0 ∧ z0 = []) ∨ ∃ x, a0 = some x ∧ len0 ≤ cap0 ∧ cap0 ≤ maxLen ∧ z0.length = cap0 ∧ (∀ i, i < z0.length → w.cell? (x.add i) = some (.int .u8 (z0.getD i 0))) ∧ ∀ n ∈ z0, (Lit.int .u8 n).wf = true) (y0 : len0 * 1 ≤ 140737488351232) :
  Calls Try.prog 12 #[.slice a0 len0 cap0] w fun e w' => e = .returned (.bool true) ∧ Below w.heap.size w w' := by
 obtain ⟨l0, rfl, hr0, hm0, hw0, hc0⟩ := ReadsInt.ofRowC w0
 obtain ⟨k, h⟩ := P l0 hm0 y0 hw0
 refine (laws_FnNumBytes.calls k _ _ l0 true w (Kd.C_of_reads (d := (0 : Int)) (h1 := fun _ => rfl) hr0) hc0 h).mono ?_
 rintro e w' ⟨rfl, hd⟩
 exact ⟨rfl, hd⟩

end Go.Proofs.Ytomeiaphaimjoaa.PFnNumBytes
