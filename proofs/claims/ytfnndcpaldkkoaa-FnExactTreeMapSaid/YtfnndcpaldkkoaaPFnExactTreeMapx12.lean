-- Written by a program of this session, which goes by the kit's print. Not trusted: Lean checks it.
import Derived.Test.YtfnndcpaldkkoaaPFnExactTreeMapx0
import Derived.Test.YtfnndcpaldkkoaaPFnExactTreeMapx11
namespace Go.Proofs.Ytfnndcpaldkkoaa.PFnExactTreeMap
open Go.RowKit Go.Proofs.YtfnndcpaldkkoaaW.PrintWords Go.Proofs.YtfnndcpaldkkoaaW.PrintLast Go.Proofs.YtfnndcpaldkkoaaW.PrintMore
attribute [local go_sem] Instr.field asAgg max2_int min2_int max_two min_two max_three min_three max_four min_four   -- for this text's walks alone
set_option linter.unusedVariables false
set_option linter.unusedSimpArgs false

/-! ### slices_IndexFunc_Msg_104: function 124 -/
def slices_IndexFunc_Msg_104.l0 : Nat → List (S72) → Int → Int → Int → Int → Option (Int)
 | 0, _, _, _, _, _ => none
 | k + 1, x0, x7, x8, x29000, x30000 => if x8 < x7 then (if 0 ≤ x8 then (if x8 < (x0.length : Int) then ((impl_depthOf_f1.f k ((rd_T72 x0 x8).f0) ((rd_T72 x0 x8).f1) ((rd_T72 x0 x8).f2) x29000 x30000).bind fun t345 => (if t345 = true then (some x8) else (slices_IndexFunc_Msg_104.l0 k x0 x7 (wrap64 (x8 + 1)) x29000 x30000))) else (none)) else (none)) else (some (-1))
def slices_IndexFunc_Msg_104.f (k : Nat) (l0 : List (S72)) (a28_0 : Int) (a29_0 : Int) : Option (Int) := slices_IndexFunc_Msg_104.l0 k l0 (l0.length : Int) 0 a28_0 a29_0
theorem slices_IndexFunc_Msg_104.mono_l : ∀ k, (∀ y0 y1 y2 y3 y4, LeO (slices_IndexFunc_Msg_104.l0 k y0 y1 y2 y3 y4) (slices_IndexFunc_Msg_104.l0 (k + 1) y0 y1 y2 y3 y4))
 | 0 => fun _ _ _ _ _ r h => by simp [slices_IndexFunc_Msg_104.l0] at h
 | k + 1 => by
  have ih0 := slices_IndexFunc_Msg_104.mono_l k
  ·intro y0 y1 y2 y3 y4
   unfold slices_IndexFunc_Msg_104.l0
   have m0 := @impl_depthOf_f1.mono
   exact zm_
theorem slices_IndexFunc_Msg_104.mono : ∀ a0 a1 a2 k, LeO (slices_IndexFunc_Msg_104.f k a0 a1 a2) (slices_IndexFunc_Msg_104.f (k + 1) a0 a1 a2) := by
 intro a0 a1 a2 k
 have ih0 := slices_IndexFunc_Msg_104.mono_l k
 unfold slices_IndexFunc_Msg_104.f
 have m0 := @impl_depthOf_f1.mono
 exact zm_
set_option maxHeartbeats 8000000 in
set_option maxRecDepth 100000 in
theorem slices_IndexFunc_Msg_104.calls (k : Nat) (A0 : Option Addr) (c0 : Nat) (l0 : List (S72)) (gc28 : Nat) (gc29 : Nat) (a28_0 : Int) (a29_0 : Int) (r : Int) (w : World) (hr0 : Kd.C k72 w A0 l0.length l0) (hc0 : l0.length ≤ c0) (hb28 : w.heap[gc28]? = some (.cells #[.int .i64 a28_0] 3 (0, 0))) (hb29 : w.heap[gc29]? = some (.cells #[.int .i64 a29_0] 3 (0, 0))) (h : slices_IndexFunc_Msg_104.f k l0 a28_0 a29_0 = some r) :
  Calls Try.prog 124 #[.slice A0 l0.length c0, .func (.func 104) #[] #[.pointer (some ⟨gc28, 0, none⟩), .pointer (some ⟨gc29, 0, none⟩)]] w fun e w' => e = .returned (.int .i64 r) ∧ Below w.heap.size w w' := by
 have hu72 := Try.underlying72
 have HR0 := q_ hr0
 have HC0 := q_ hc0
 clear hr0 hc0
 have BK28 := q_ hb28
 clear hb28
 have BK29 := q_ hb29
 clear hb29
 have HB := q_ (Below.refl w.heap.size w)
 have H := h; clear h
 unfold slices_IndexFunc_Msg_104.f at H
 have H' := q_ H
 clear H
 go_enter Try.func124, Try.ntmps124
 go_wp2
 go_loopg [8] k (fun kq v8 w' => ∃ (x8_1 : Int), v8 = .int .i64 x8_1 ∧ Aside0 (slices_IndexFunc_Msg_104.l0 kq l0 (l0.length : Int) x8_1 a28_0 a29_0 = some r) ∧ Aside0 (kq ≤ k) ∧ Aside0 (w'.heap[gc28]? = some (.cells #[.int .i64 a28_0] 3 (0, 0))) ∧ Aside0 (w'.heap[gc29]? = some (.cells #[.int .i64 a29_0] 3 (0, 0))) ∧ Aside0 (Below w.heap.size w w'))
 case atStart => exact ⟨(0), z4_, H', ⟨Nat.le_refl _⟩, ⟨z49_⟩, ⟨z50_⟩, ⟨cb_⟩⟩
 case round =>
  clear H'
  try clear c1
  try clear c2
  try clear p2
  obtain ⟨x8_1, rfl, HA, HK1, BK28, BK29, HB⟩ := hrel
  obtain ⟨k1, rfl, H⟩ := rn_ (k := gk) HA (by rintro rfl; simp only [slices_IndexFunc_Msg_104.l0])
  clear HA
  simp only [slices_IndexFunc_Msg_104.l0] at H
  replace H := kd_ H; rcases H with ⟨c3b0, H⟩ | ⟨c3b0, H⟩
  ·replace H := kdn_ H; obtain ⟨c4b0, H⟩ := H
   replace H := kdn_ H; obtain ⟨c5b0, H⟩ := H
   replace H := bi_ H; obtain ⟨t345, A6, H⟩ := H
   have HC7 := q_ H
   clear H
   have p344 : 0 ≤ (x8_1 : Int) := of_decide_eq_true z2_
   have q344 : x8_1 < (l0.length : Int) := of_decide_eq_true z2_
   obtain ⟨ad344, e344, hx344_0, hx344_1, hx344_2⟩ := at_T72 HR0.out x8_1 p344 q344
   cases e344
   replace hx344_0 := up_ HB hx344_0
   replace hx344_1 := up_ HB hx344_1
   replace hx344_2 := up_ HB hx344_2
   replace p344 := eq_true p344
   replace q344 := eq_true q344
   go_upto_if 16 with (first | (go_at_call 104; refine calls_of_args (args' := #[.agg #[.int .i64 ((rd_T72 l0 x8_1).f0), .int .i64 ((rd_T72 l0 x8_1).f1), .int .i64 ((rd_T72 l0 x8_1).f2)], .pointer (some ⟨gc28, 0, none⟩), .pointer (some ⟨gc29, 0, none⟩)]) (by first | rfl | rfl) ?_; (with_reducible refine (impl_depthOf_f1.calls k1 ((rd_T72 l0 x8_1).f0) ((rd_T72 l0 x8_1).f1) ((rd_T72 l0 x8_1).f2) gc28 a28_0 gc29 a29_0 t345 _ ?side1 ?side2 A6.out).mono ?_); (case side1 => exact z107_); (case side2 => exact z108_); rintro e w8 ⟨rfl, hb⟩; replace BK28 := rb_ BK28 hb; replace BK29 := rb_ BK29 hb; replace HB := hb_ hb; (try clear hb); (try clear hb2); (try clear hk); (try clear hi)))
   (try simp only [Act.put, List.setIfInBounds_toArray, List.set_cons_zero, List.set_cons_succ])
   have H := HC7.out
   clear HC7
   replace H := kb_ H; rcases H with ⟨rfl, H⟩ | ⟨rfl, H⟩
   ·obtain rfl := si_ H
    go_wp2
    go_ret
    exact ⟨z1_, cb_⟩
   ·have H' := q_ H
    clear H
    go_wp2
    go_roundg k1
    case measure => have := HK1.out; omega
    case rel => exact ⟨(wrap64 (x8_1 + 1)), z4_, H', ⟨z27_⟩, ⟨z49_⟩, ⟨z50_⟩, ⟨cb_⟩⟩
  ·obtain rfl := si_ H
   go_wp2
   go_ret
   exact ⟨z1_, cb_⟩

/-! ### slices_ContainsFunc_Msg_104: function 103 -/
def slices_ContainsFunc_Msg_104.f (k : Nat) (l0 : List (S72)) (a28_0 : Int) (a29_0 : Int) : Option (Bool) := (slices_IndexFunc_Msg_104.f k l0 a28_0 a29_0).bind fun t346 => (some (decide (t346 ≥ 0)))
theorem slices_ContainsFunc_Msg_104.mono : ∀ a0 a1 a2 k, LeO (slices_ContainsFunc_Msg_104.f k a0 a1 a2) (slices_ContainsFunc_Msg_104.f (k + 1) a0 a1 a2) := by
 intro a0 a1 a2 k
 unfold slices_ContainsFunc_Msg_104.f
 have m0 := @slices_IndexFunc_Msg_104.mono
 exact zm_
set_option maxHeartbeats 8000000 in
set_option maxRecDepth 100000 in
theorem slices_ContainsFunc_Msg_104.calls (k : Nat) (A0 : Option Addr) (c0 : Nat) (l0 : List (S72)) (gc28 : Nat) (gc29 : Nat) (a28_0 : Int) (a29_0 : Int) (r : Bool) (w : World) (hr0 : Kd.C k72 w A0 l0.length l0) (hc0 : l0.length ≤ c0) (hb28 : w.heap[gc28]? = some (.cells #[.int .i64 a28_0] 3 (0, 0))) (hb29 : w.heap[gc29]? = some (.cells #[.int .i64 a29_0] 3 (0, 0))) (h : slices_ContainsFunc_Msg_104.f k l0 a28_0 a29_0 = some r) :
  Calls Try.prog 103 #[.slice A0 l0.length c0, .func (.func 104) #[] #[.pointer (some ⟨gc28, 0, none⟩), .pointer (some ⟨gc29, 0, none⟩)]] w fun e w' => e = .returned (.bool r) ∧ Below w.heap.size w w' := by
 have HR0 := q_ hr0
 have HC0 := q_ hc0
 clear hr0 hc0
 have BK28 := q_ hb28
 clear hb28
 have BK29 := q_ hb29
 clear hb29
 have HB := q_ (Below.refl w.heap.size w)
 have H := h; clear h
 unfold slices_ContainsFunc_Msg_104.f at H
 replace H := bi_ H; obtain ⟨t346, A3, H⟩ := H
 obtain rfl := si_ H
 go_enter Try.func103, Try.ntmps103
 go_wp2_with (first | ((with_reducible refine gate_callee (f := 124) rfl ?_); refine goesL_ (some 7) rfl rfl Try.func124 (by kernel_rfl) rfl #[.slice A0 l0.length c0, .func (.func 104) #[] #[.pointer (some ⟨gc28, 0, none⟩), .pointer (some ⟨gc29, 0, none⟩)]] rfl z0_ ?_; (with_reducible refine (slices_IndexFunc_Msg_104.calls k _ _ l0 gc28 gc29 a28_0 a29_0 t346 _ ?side1 ?side2 ?side3 ?side4 A3.out).mono ?_); (case side1 => exact z109_); (case side2 => exact HC0.out); (case side3 => exact z107_); (case side4 => exact z108_); rintro e w4 ⟨rfl, hb⟩; refine ⟨_, rfl, ?_⟩; replace BK28 := rb_ BK28 hb; replace BK29 := rb_ BK29 hb; replace HB := hb_ hb; (try clear hb); (try clear hb2); (try clear hk); (try clear hi)))
 go_ret
 exact ⟨z1_, cb_⟩

end Go.Proofs.Ytfnndcpaldkkoaa.PFnExactTreeMap
