-- Written by a program of this session, which goes by the kit's print. Not trusted: Lean checks it.
import Derived.Test.YtfnndcpaldkkoaaPFnExactTreeGetx0
import Derived.Test.YtfnndcpaldkkoaaPFnExactTreeGetx1
import Derived.Test.YtfnndcpaldkkoaaPFnExactTreeGetx2
import Derived.Test.YtfnndcpaldkkoaaPFnExactTreeGetx4
import Derived.Test.YtfnndcpaldkkoaaPFnExactTreeGetx11
import Derived.Test.YtfnndcpaldkkoaaPFnExactTreeGetx14
import Derived.Test.YtfnndcpaldkkoaaPFnExactTreeGetx15
import Derived.Test.YtfnndcpaldkkoaaPFnExactTreeGetx16
namespace Go.Proofs.Ytfnndcpaldkkoaa.PFnExactTreeGet
open Go.RowKit Go.Proofs.YtfnndcpaldkkoaaW.PrintWords Go.Proofs.YtfnndcpaldkkoaaW.PrintLast Go.Proofs.YtfnndcpaldkkoaaW.PrintMore
attribute [local go_sem] Instr.field asAgg max2_int min2_int max_two min_two max_three min_three max_four min_four   -- for this text's walks alone
set_option linter.unusedVariables false
set_option linter.unusedSimpArgs false

/-! ### impl_TreeGet: function 35 -/
def impl_TreeGet.f (k : Nat) (a0_0 : Bool) (l0_1 : List (S92)) (l0_2 : List Int) (l0_3 : List (S34)) (l0_4 : List (S72)) (a1 : Int) : Option (Int × Bool) := (impl_TreeOk.f k a0_0 l0_1 l0_2 l0_3 l0_4).bind fun t443 => (if t443 = true then ((some (([] : List (S92)) : List (S92))).bind fun y444 => ((impl_leafOf.f k a0_0 l0_1 l0_2 l0_3 l0_4 a1).bind fun bt447 => ((impl_MapGet.f k bt447.2.1 a1).bind fun bt460 => (if bt460.2 = true then (if y444.length < 8796093022208 then ((impl_pending.f k a0_0 l0_1 l0_2 l0_3 l0_4 a1).bind fun t465 => ((impl_MapAll.f k (y444 ++ [(⟨a1, bt460.1⟩ : S92)]) t465).bind fun t468 => ((impl_MapGet.f k t468 a1).bind fun bt471 => (some (bt471.1, bt471.2))))) else (none)) else ((impl_pending.f k a0_0 l0_1 l0_2 l0_3 l0_4 a1).bind fun t473 => ((impl_MapAll.f k y444 t473).bind fun t476 => ((impl_MapGet.f k t476 a1).bind fun bt479 => (some (bt479.1, bt479.2))))))))) else (some (0, false)))
theorem impl_TreeGet.mono : ∀ a0 a1 a2 a3 a4 a5 k, LeO (impl_TreeGet.f k a0 a1 a2 a3 a4 a5) (impl_TreeGet.f (k + 1) a0 a1 a2 a3 a4 a5) := by
 intro a0 a1 a2 a3 a4 a5 k
 unfold impl_TreeGet.f
 have m0 := @impl_MapAll.mono
 have m1 := @impl_MapGet.mono
 have m2 := @impl_TreeOk.mono
 have m3 := @impl_leafOf.mono
 have m4 := @impl_pending.mono
 exact zm_
set_option maxHeartbeats 8000000 in
set_option maxRecDepth 100000 in
theorem impl_TreeGet.calls (k : Nat) (a0_0 : Bool) (A0_1 : Option Addr) (c0_1 : Nat) (l0_1 : List (S92)) (A0_2 : Option Addr) (c0_2 : Nat) (l0_2 : List Int) (A0_3 : Option Addr) (c0_3 : Nat) (l0_3 : List (S34)) (A0_4 : Option Addr) (c0_4 : Nat) (l0_4 : List (S72)) (a1 : Int) (r1 : Int) (r2 : Bool) (w : World) (hr0_1 : Kd.C k92 w A0_1 l0_1.length l0_1) (hc0_1 : l0_1.length ≤ c0_1) (hr0_2 : Kd.C (Kd.int .i64) w A0_2 l0_2.length l0_2) (hc0_2 : l0_2.length ≤ c0_2) (hr0_3 : Kd.C k34 w A0_3 l0_3.length l0_3) (hc0_3 : l0_3.length ≤ c0_3) (hr0_4 : Kd.C k72 w A0_4 l0_4.length l0_4) (hc0_4 : l0_4.length ≤ c0_4) (h : impl_TreeGet.f k a0_0 l0_1 l0_2 l0_3 l0_4 a1 = some (r1, r2)) :
  Calls Try.prog 35 #[.agg #[.bool a0_0, .slice A0_1 l0_1.length c0_1, .slice A0_2 l0_2.length c0_2, .slice A0_3 l0_3.length c0_3, .slice A0_4 l0_4.length c0_4], .int .i64 a1] w fun e w' => e = .returned (.tuple #[.int .i64 r1, .bool r2]) ∧ Below w.heap.size w w' := by
 have hu34 := Try.underlying34
 have hu92 := Try.underlying92
 have HR0_1 := q_ hr0_1
 have HC0_1 := q_ hc0_1
 clear hr0_1 hc0_1
 have HR0_2 := q_ hr0_2
 have HC0_2 := q_ hc0_2
 clear hr0_2 hc0_2
 have HR0_3 := q_ hr0_3
 have HC0_3 := q_ hc0_3
 clear hr0_3 hc0_3
 have HR0_4 := q_ hr0_4
 have HC0_4 := q_ hc0_4
 clear hr0_4 hc0_4
 have HB := q_ (Below.refl w.heap.size w)
 have H := h; clear h
 unfold impl_TreeGet.f at H
 replace H := bi_ H; obtain ⟨t443, A3, H⟩ := H
 have HC4 := q_ H
 clear H
 go_enter Try.func35, Try.ntmps35
 go_upto_if 11 with (first | ((with_reducible refine gate_dst (N := 2) rfl ?_); refine box_event ?hg (N := 2) ?hd (cs := #[.bool a0_0, .slice A0_1 l0_1.length c0_1, .slice A0_2 l0_2.length c0_2, .slice A0_3 l0_3.length c0_3, .slice A0_4 l0_4.length c0_4]) (t := 34) ?hr ?_; (case hd => rfl); (case hg => rfl); (case hr => exact z104_); intro gb442 hg w5 hbox hb; have BK442 := q_ (hbox); have GW442 := ge_ hg; have GE442 := ge_ hg; replace HB := hb_ hb; clear hb hbox hg; obtain ⟨hz_, hz_, hz_, hz_, hz_, hz_, hz_, hz_, hz_, hz_⟩ := cs5_ BK442.out) | ((with_reducible refine gate_callee (f := 21) rfl ?_); refine goesL_ (some 10) rfl rfl Try.func21 (by kernel_rfl) rfl #[.agg #[.bool a0_0, .slice A0_1 l0_1.length c0_1, .slice A0_2 l0_2.length c0_2, .slice A0_3 l0_3.length c0_3, .slice A0_4 l0_4.length c0_4]] rfl z0_ ?_; (with_reducible refine (impl_TreeOk.calls k a0_0 _ _ l0_1 _ _ l0_2 _ _ l0_3 _ _ l0_4 t443 _ ?side1 ?side2 ?side3 ?side4 ?side5 ?side6 ?side7 ?side8 A3.out).mono ?_); (case side1 => exact z103_); (case side2 => exact z126_); (case side3 => exact z106_); (case side4 => exact HC0_2.out); (case side5 => exact z107_); (case side6 => exact HC0_3.out); (case side7 => exact z105_); (case side8 => exact HC0_4.out); rintro e w7 ⟨rfl, hb⟩; refine ⟨_, rfl, ?_⟩; replace BK442 := rb_ BK442 hb; replace HB := hb_ hb; (try clear hb); (try clear hb2); (try clear hk); (try clear hi)))
 (try simp only [Act.put, List.setIfInBounds_toArray, List.set_cons_zero, List.set_cons_succ])
 have H := HC4.out
 clear HC4
 replace H := kb_ H; rcases H with ⟨rfl, H⟩ | ⟨rfl, H⟩
 ·obtain ⟨y444, hy_⟩ : ∃ y_ : List (S92), y_ = (([] : List (S92))) := ⟨_, rfl⟩
  replace H : ((impl_leafOf.f k a0_0 l0_1 l0_2 l0_3 l0_4 a1).bind fun bt447 => ((impl_MapGet.f k bt447.2.1 a1).bind fun bt460 => (if bt460.2 = true then (if y444.length < 8796093022208 then ((impl_pending.f k a0_0 l0_1 l0_2 l0_3 l0_4 a1).bind fun t465 => ((impl_MapAll.f k (y444 ++ [(⟨a1, bt460.1⟩ : S92)]) t465).bind fun t468 => ((impl_MapGet.f k t468 a1).bind fun bt471 => (some (bt471.1, bt471.2))))) else (none)) else ((impl_pending.f k a0_0 l0_1 l0_2 l0_3 l0_4 a1).bind fun t473 => ((impl_MapAll.f k y444 t473).bind fun t476 => ((impl_MapGet.f k t476 a1).bind fun bt479 => (some (bt479.1, bt479.2)))))))) = some (r1, r2) := z3_
  have Ny444 := q_ hy_
  clear hy_
  replace H := bi_ H; obtain ⟨⟨t447, t448, t451, t454, t457⟩, A9, H⟩ := H
  (try dsimp only at H)
  replace H := bi_ H; obtain ⟨⟨t460, t461⟩, A10, H⟩ := H
  (try dsimp only at H)
  have HC11 := q_ H
  clear H
  go_upto_if 22 with (first | ((with_reducible refine gate_dst (N := 12) rfl ?_); refine Kd.R_lit k92 _ 92 ?hg (N := 12) ?hd (xs := ([] : List (S92))) (inner := []) (ok := fun _ => True) (okp := fun _ => True) ?hr ?hp (fun _ hk => hk) trivial (Below.refl _ _) (Nat.le_refl _) (by simp) ?_; (case hd => rfl); (case hg => rfl); (case hr => exact z104_); (case hp => exact z135_); intro v445 w12 ho13 hb hg_ hnew_; clear hg_ hnew_; (first | rw [← Ny444.out] at ho13 | (simp only [Int.reduceToNat] at ho13; rw [← Ny444.out] at ho13)); have HO446 := q_ (Kd.R_lower ho13 (below_size cb_)); replace BK442 := rb_ BK442 hb; replace HB := hb_ hb; clear hb ho13; obtain ⟨hz_, hz_, hz_, hz_, hz_, hz_, hz_, hz_, hz_, hz_⟩ := cs5_ BK442.out) | ((with_reducible refine gate_callee (f := 81) rfl ?_); refine goesL_ (some 16) rfl rfl Try.func81 (by kernel_rfl) rfl #[.agg #[.bool a0_0, .slice A0_1 l0_1.length c0_1, .slice A0_2 l0_2.length c0_2, .slice A0_3 l0_3.length c0_3, .slice A0_4 l0_4.length c0_4], .int .i64 a1] rfl z0_ ?_; (with_reducible refine (impl_leafOf.calls k a0_0 (fun k_ => k_ < w.heap.size) _ _ l0_1 (fun k_ => k_ < w.heap.size) _ _ l0_2 (fun k_ => k_ < w.heap.size) _ _ l0_3 (fun k_ => k_ < w.heap.size) _ _ l0_4 a1 t447 t448 t451 t454 t457 _ ?side1 ?side2 ?side3 ?side4 A9.out).mono ?_); (case side1 => exact Kd.V_mk HC0_1.out (Kd.F_below (Kd.C_F k92_heap HR0_1.out) cb_)); (case side2 => exact Kd.V_mk HC0_2.out (Kd.F_below (Kd.C_F (Kd.heap_int .i64) HR0_2.out) cb_)); (case side3 => exact Kd.V_mk HC0_3.out (Kd.F_below (Kd.C_F k34_heap HR0_3.out) cb_)); (case side4 => exact Kd.V_mk HC0_4.out (Kd.F_below (Kd.C_F k72_heap HR0_4.out) cb_)); rintro e w15 ⟨v449, v452, v455, v458, rfl, ho0, ho1, ho2, ho3, hb⟩; refine ⟨_, rfl, ?_⟩; have HO450 := q_ (Kd.V_lower (Kd.V_mono (ok' := fun k_ => some k_ ≠ (v445 : Value).ownBlock ∧ k_ ≠ gb442) ho0 (fun k_ hk_ => ⟨Or.elim hk_ (fun hs_ => Or.elim hs_ (fun hs_ => fun e_ => Nat.not_le.2 hs_ (Kd.R_base HO446.out k_ e_.symm)) (fun hs_ => Or.elim hs_ (fun hs_ => fun e_ => Nat.not_le.2 hs_ (Kd.R_base HO446.out k_ e_.symm)) (fun hs_ => Or.elim hs_ (fun hs_ => fun e_ => Nat.not_le.2 hs_ (Kd.R_base HO446.out k_ e_.symm)) (fun hs_ => fun e_ => Nat.not_le.2 hs_ (Kd.R_base HO446.out k_ e_.symm))))) (fun hn_ => (Kd.fresh' (Kd.R_lt z27_) k_ hn_)), Or.elim hk_ (fun hs_ => Or.elim hs_ (fun hs_ => fun e_ => Nat.not_le.2 hs_ z65_) (fun hs_ => Or.elim hs_ (fun hs_ => fun e_ => Nat.not_le.2 hs_ z65_) (fun hs_ => Or.elim hs_ (fun hs_ => fun e_ => Nat.not_le.2 hs_ z65_) (fun hs_ => fun e_ => Nat.not_le.2 hs_ z65_)))) (fun hn_ => (Kd.freshB (g := gb442) (o := .cells #[.bool a0_0, .slice A0_1 l0_1.length c0_1, .slice A0_2 l0_2.length c0_2, .slice A0_3 l0_3.length c0_3, .slice A0_4 l0_4.length c0_4] 34 (0, 0)) z49_ k_ hn_))⟩)) (below_size cb_)); have HO453 := q_ (Kd.V_lower (Kd.V_mono (ok' := fun k_ => some k_ ≠ (v445 : Value).ownBlock ∧ k_ ≠ gb442) ho1 (fun k_ hk_ => ⟨Or.elim hk_ (fun hs_ => Or.elim hs_ (fun hs_ => fun e_ => Nat.not_le.2 hs_ (Kd.R_base HO446.out k_ e_.symm)) (fun hs_ => Or.elim hs_ (fun hs_ => fun e_ => Nat.not_le.2 hs_ (Kd.R_base HO446.out k_ e_.symm)) (fun hs_ => Or.elim hs_ (fun hs_ => fun e_ => Nat.not_le.2 hs_ (Kd.R_base HO446.out k_ e_.symm)) (fun hs_ => fun e_ => Nat.not_le.2 hs_ (Kd.R_base HO446.out k_ e_.symm))))) (fun hn_ => (Kd.fresh' (Kd.R_lt z27_) k_ hn_)), Or.elim hk_ (fun hs_ => Or.elim hs_ (fun hs_ => fun e_ => Nat.not_le.2 hs_ z65_) (fun hs_ => Or.elim hs_ (fun hs_ => fun e_ => Nat.not_le.2 hs_ z65_) (fun hs_ => Or.elim hs_ (fun hs_ => fun e_ => Nat.not_le.2 hs_ z65_) (fun hs_ => fun e_ => Nat.not_le.2 hs_ z65_)))) (fun hn_ => (Kd.freshB (g := gb442) (o := .cells #[.bool a0_0, .slice A0_1 l0_1.length c0_1, .slice A0_2 l0_2.length c0_2, .slice A0_3 l0_3.length c0_3, .slice A0_4 l0_4.length c0_4] 34 (0, 0)) z49_ k_ hn_))⟩)) (below_size cb_)); have HO456 := q_ (Kd.V_lower (Kd.V_mono (ok' := fun k_ => some k_ ≠ (v445 : Value).ownBlock ∧ k_ ≠ gb442) ho2 (fun k_ hk_ => ⟨Or.elim hk_ (fun hs_ => Or.elim hs_ (fun hs_ => fun e_ => Nat.not_le.2 hs_ (Kd.R_base HO446.out k_ e_.symm)) (fun hs_ => Or.elim hs_ (fun hs_ => fun e_ => Nat.not_le.2 hs_ (Kd.R_base HO446.out k_ e_.symm)) (fun hs_ => Or.elim hs_ (fun hs_ => fun e_ => Nat.not_le.2 hs_ (Kd.R_base HO446.out k_ e_.symm)) (fun hs_ => fun e_ => Nat.not_le.2 hs_ (Kd.R_base HO446.out k_ e_.symm))))) (fun hn_ => (Kd.fresh' (Kd.R_lt z27_) k_ hn_)), Or.elim hk_ (fun hs_ => Or.elim hs_ (fun hs_ => fun e_ => Nat.not_le.2 hs_ z65_) (fun hs_ => Or.elim hs_ (fun hs_ => fun e_ => Nat.not_le.2 hs_ z65_) (fun hs_ => Or.elim hs_ (fun hs_ => fun e_ => Nat.not_le.2 hs_ z65_) (fun hs_ => fun e_ => Nat.not_le.2 hs_ z65_)))) (fun hn_ => (Kd.freshB (g := gb442) (o := .cells #[.bool a0_0, .slice A0_1 l0_1.length c0_1, .slice A0_2 l0_2.length c0_2, .slice A0_3 l0_3.length c0_3, .slice A0_4 l0_4.length c0_4] 34 (0, 0)) z49_ k_ hn_))⟩)) (below_size cb_)); have HO459 := q_ (Kd.V_lower (Kd.V_mono (ok' := fun k_ => some k_ ≠ (v445 : Value).ownBlock ∧ k_ ≠ gb442) ho3 (fun k_ hk_ => ⟨Or.elim hk_ (fun hs_ => Or.elim hs_ (fun hs_ => fun e_ => Nat.not_le.2 hs_ (Kd.R_base HO446.out k_ e_.symm)) (fun hs_ => Or.elim hs_ (fun hs_ => fun e_ => Nat.not_le.2 hs_ (Kd.R_base HO446.out k_ e_.symm)) (fun hs_ => Or.elim hs_ (fun hs_ => fun e_ => Nat.not_le.2 hs_ (Kd.R_base HO446.out k_ e_.symm)) (fun hs_ => fun e_ => Nat.not_le.2 hs_ (Kd.R_base HO446.out k_ e_.symm))))) (fun hn_ => (Kd.fresh' (Kd.R_lt z27_) k_ hn_)), Or.elim hk_ (fun hs_ => Or.elim hs_ (fun hs_ => fun e_ => Nat.not_le.2 hs_ z65_) (fun hs_ => Or.elim hs_ (fun hs_ => fun e_ => Nat.not_le.2 hs_ z65_) (fun hs_ => Or.elim hs_ (fun hs_ => fun e_ => Nat.not_le.2 hs_ z65_) (fun hs_ => fun e_ => Nat.not_le.2 hs_ z65_)))) (fun hn_ => (Kd.freshB (g := gb442) (o := .cells #[.bool a0_0, .slice A0_1 l0_1.length c0_1, .slice A0_2 l0_2.length c0_2, .slice A0_3 l0_3.length c0_3, .slice A0_4 l0_4.length c0_4] 34 (0, 0)) z49_ k_ hn_))⟩)) (below_size cb_)); replace HO446 := q_ (Kd.R_below z27_ hb); replace BK442 := rb_ BK442 hb; replace HB := hb_ hb; (try clear hb); (try clear hb2); (try clear hk); (try clear hi); (try clear ho0); (try clear ho1); (try clear ho2); (try clear ho3); obtain ⟨Ao16, co16, eo16⟩ := Kd.V_slice HO450.out; subst eo16) | ((with_reducible refine gate_callee (f := 54) rfl ?_); refine goesL_ (some 19) rfl rfl Try.func54 (by kernel_rfl) rfl #[.slice Ao16 t448.length co16, .int .i64 a1] rfl z0_ ?_; (with_reducible refine (impl_MapGet.calls k _ _ t448 a1 t460 t461 _ ?side1 ?side2 A10.out).mono ?_); (case side1 => repeat (first | exact (Kd.V_reads' HO450.out).2.2 | (with_reducible refine Kd.C_alloc ?_ _) | (with_reducible refine Kd.C_drewN ?_ _) | (with_reducible refine Kd.C_drew ?_))); (case side2 => exact (Kd.V_reads' HO450.out).2.1); rintro e w17 ⟨rfl, hb⟩; refine ⟨_, rfl, ?_⟩; replace HO446 := q_ (Kd.R_below z27_ hb); replace HO450 := q_ (Kd.V_below z38_ hb); replace HO453 := q_ (Kd.V_below z39_ hb); replace HO456 := q_ (Kd.V_below z40_ hb); replace HO459 := q_ (Kd.V_below z41_ hb); replace BK442 := rb_ BK442 hb; replace HB := hb_ hb; (try clear hb); (try clear hb2); (try clear hk); (try clear hi)))
  (try simp only [Act.put, List.setIfInBounds_toArray, List.set_cons_zero, List.set_cons_succ])
  have H := HC11.out
  clear HC11
  replace H := kb_ H; rcases H with ⟨rfl, H⟩ | ⟨rfl, H⟩
  ·replace H := kln_ H; obtain ⟨LMc19, H⟩ := H
   obtain ⟨y462, hy_⟩ : ∃ y_ : List (S92), y_ = (y444 ++ [(⟨a1, t460⟩ : S92)]) := ⟨_, rfl⟩
   replace H : ((impl_pending.f k a0_0 l0_1 l0_2 l0_3 l0_4 a1).bind fun t465 => ((impl_MapAll.f k y462 t465).bind fun t468 => ((impl_MapGet.f k t468 a1).bind fun bt471 => (some (bt471.1, bt471.2))))) = some (r1, r2) := z3_
   have Ny462 := q_ hy_
   clear hy_
   replace H := bi_ H; obtain ⟨t465, A20, H⟩ := H
   replace H := bi_ H; obtain ⟨t468, A21, H⟩ := H
   replace H := bi_ H; obtain ⟨⟨t471, t472⟩, A22, H⟩ := H
   (try dsimp only at H)
   obtain ⟨rfl, rfl⟩ := s2_ H
   go_wp2_with (first | ((with_reducible refine gate_builtin (b := .append) (xs := #[.tmp 23, .tmp 27]) rfl ?_); at_builtin; refine Kd.R_append k92 (w0 := w) w.heap.size rfl (.tmp 23) (.tmp 27) 30 92 (.agg #[(.int .i64 0), (.int .i64 0)]) 16 rfl Try.underlying30 info92 rfl (by decide) (by omega) v445 y444 (⟨a1, t460⟩ : S92) [.int .i64 a1, .int .i64 t460] (fun _ => True) (fun _ => False) rfl rfl ?aP (fun _ hk => hk.elim) ?aF ?aO ?aB ?aS ?aL ?_; (case aP => exact k92_mkM _ _ _ (⟨a1, t460⟩ : S92)); (case aB => exact cb_); (case aF => exact z134_); (case aO => exact z27_); (case aS => exact z133_); (case aL => have := LMc19.out; omega); intro v463 w23 ho hb hg hat; rw [← Ny462.out] at ho; replace BK442 := q_ (blk_grown (g := gb442) (o := .cells #[.bool a0_0, .slice A0_1 l0_1.length c0_1, .slice A0_2 l0_2.length c0_2, .slice A0_3 l0_3.length c0_3, .slice A0_4 l0_4.length c0_4] 34 (0, 0)) z49_ hg (Kd.R_ne HO446.out BK442.out (by decide))); replace HO450 := q_ (Kd.V_afterv (ok := (fun k_ => k_ ≠ gb442)) (by (with_reducible repeat (first | apply Kd.V_alloc | apply Kd.V_drewN | apply Kd.V_drew)); exact Kd.V_mono HO450.out (fun _ hk => ⟨hk.2, hk.1⟩)) hg hat); replace HO453 := q_ (Kd.V_afterv (ok := (fun k_ => k_ ≠ gb442)) (by (with_reducible repeat (first | apply Kd.V_alloc | apply Kd.V_drewN | apply Kd.V_drew)); exact Kd.V_mono HO453.out (fun _ hk => ⟨hk.2, hk.1⟩)) hg hat); replace HO456 := q_ (Kd.V_afterv (ok := (fun k_ => k_ ≠ gb442)) (by (with_reducible repeat (first | apply Kd.V_alloc | apply Kd.V_drewN | apply Kd.V_drew)); exact Kd.V_mono HO456.out (fun _ hk => ⟨hk.2, hk.1⟩)) hg hat); replace HO459 := q_ (Kd.V_afterv (ok := (fun k_ => k_ ≠ gb442)) (by (with_reducible repeat (first | apply Kd.V_alloc | apply Kd.V_drewN | apply Kd.V_drew)); exact Kd.V_mono HO459.out (fun _ hk => ⟨hk.2, hk.1⟩)) hg hat); replace HB := q_ (hb); have HO464 := q_ (ho); clear HO446; clear ho hb hg hat; obtain ⟨hz_, hz_, hz_, hz_, hz_, hz_, hz_, hz_, hz_, hz_⟩ := cs5_ BK442.out) | ((with_reducible refine gate_callee (f := 72) rfl ?_); refine goesL_ (some 32) rfl rfl Try.func72 (by kernel_rfl) rfl #[.agg #[.bool a0_0, .slice A0_1 l0_1.length c0_1, .slice A0_2 l0_2.length c0_2, .slice A0_3 l0_3.length c0_3, .slice A0_4 l0_4.length c0_4], .int .i64 a1] rfl z0_ ?_; (with_reducible refine (impl_pending.calls k a0_0 _ _ l0_1 _ _ l0_2 _ _ l0_3 _ _ l0_4 a1 t465 _ ?side1 ?side2 ?side3 ?side4 ?side5 ?side6 ?side7 ?side8 A20.out).mono ?_); (case side1 => exact z103_); (case side2 => exact z126_); (case side3 => exact z106_); (case side4 => exact HC0_2.out); (case side5 => exact z107_); (case side6 => exact HC0_3.out); (case side7 => exact z105_); (case side8 => exact HC0_4.out); rintro e w25 ⟨v466, rfl, ho0, hb⟩; refine ⟨_, rfl, ?_⟩; replace HO450 := q_ (Kd.V_elder' z38_ (Kd.R_base ho0) hb); replace HO453 := q_ (Kd.V_elder' z39_ (Kd.R_base ho0) hb); replace HO456 := q_ (Kd.V_elder' z40_ (Kd.R_base ho0) hb); replace HO459 := q_ (Kd.V_elder' z41_ (Kd.R_base ho0) hb); replace HO464 := q_ (Kd.R_below z67_ hb); have HO467 := q_ (Kd.R_lower ho0 (below_size cb_)); replace BK442 := rb_ BK442 hb; replace HB := hb_ hb; (try clear hb); (try clear hb2); (try clear hk); (try clear hi); (try clear ho0); obtain ⟨Ao26, co26, eo26⟩ := Kd.R_slice HO464.out; subst eo26; obtain ⟨Ao27, co27, eo27⟩ := Kd.R_slice HO467.out; subst eo27) | ((with_reducible refine gate_callee (f := 82) rfl ?_); refine goesL_ (some 33) rfl rfl Try.func82 (by kernel_rfl) rfl #[.slice Ao26 y462.length co26, .slice Ao27 t465.length co27] rfl z0_ ?_; (with_reducible refine (impl_MapAll.calls k _ _ y462 _ _ t465 t468 _ ?side1 ?side2 ?side3 ?side4 A21.out).mono ?_); (case side1 => repeat (first | exact (Kd.R_reads' HO464.out).2.2 | (with_reducible refine Kd.C_alloc ?_ _) | (with_reducible refine Kd.C_drewN ?_ _) | (with_reducible refine Kd.C_drew ?_))); (case side2 => exact (Kd.R_reads' HO464.out).2.1); (case side3 => repeat (first | exact (Kd.R_reads' HO467.out).2.2 | (with_reducible refine Kd.C_alloc ?_ _) | (with_reducible refine Kd.C_drewN ?_ _) | (with_reducible refine Kd.C_drew ?_))); (case side4 => exact (Kd.R_reads' HO467.out).2.1); rintro e w28 ⟨v469, rfl, ho0, hb⟩; refine ⟨_, rfl, ?_⟩; replace HO450 := q_ (Kd.V_elder' z38_ (Kd.R_base ho0) hb); replace HO453 := q_ (Kd.V_elder' z39_ (Kd.R_base ho0) hb); replace HO456 := q_ (Kd.V_elder' z40_ (Kd.R_base ho0) hb); replace HO459 := q_ (Kd.V_elder' z41_ (Kd.R_base ho0) hb); replace HO467 := q_ (Kd.R_below z89_ hb); have HO470 := q_ (Kd.R_lower (Kd.R_new' ho0 (Kd.R_lt z67_)) (below_size cb_)); replace HO464 := q_ (Kd.R_elder' z67_ (Kd.R_base ho0) hb); replace BK442 := rb_ BK442 hb; replace HB := hb_ hb; (try clear hb); (try clear hb2); (try clear hk); (try clear hi); (try clear ho0); obtain ⟨Ao29, co29, eo29⟩ := Kd.R_slice HO470.out; subst eo29) | ((with_reducible refine gate_callee (f := 54) rfl ?_); refine goesL_ (some 35) rfl rfl Try.func54 (by kernel_rfl) rfl #[.slice Ao29 t468.length co29, .int .i64 a1] rfl z0_ ?_; (with_reducible refine (impl_MapGet.calls k _ _ t468 a1 t471 t472 _ ?side1 ?side2 A22.out).mono ?_); (case side1 => repeat (first | exact (Kd.R_reads' HO470.out).2.2 | (with_reducible refine Kd.C_alloc ?_ _) | (with_reducible refine Kd.C_drewN ?_ _) | (with_reducible refine Kd.C_drew ?_))); (case side2 => exact (Kd.R_reads' HO470.out).2.1); rintro e w30 ⟨rfl, hb⟩; refine ⟨_, rfl, ?_⟩; replace HO450 := q_ (Kd.V_below z38_ hb); replace HO453 := q_ (Kd.V_below z39_ hb); replace HO456 := q_ (Kd.V_below z40_ hb); replace HO459 := q_ (Kd.V_below z41_ hb); replace HO464 := q_ (Kd.R_below z67_ hb); replace HO467 := q_ (Kd.R_below z89_ hb); replace HO470 := q_ (Kd.R_below (by (with_reducible repeat (first | apply Kd.R_alloc | apply Kd.R_drewN | apply Kd.R_drew)); exact HO470.out) hb); replace BK442 := rb_ BK442 hb; replace HB := hb_ hb; (try clear hb); (try clear hb2); (try clear hk); (try clear hi)))
   go_ret2
   exact ⟨z1_, cb_⟩
  ·replace H := bi_ H; obtain ⟨t473, A31, H⟩ := H
   replace H := bi_ H; obtain ⟨t476, A32, H⟩ := H
   replace H := bi_ H; obtain ⟨⟨t479, t480⟩, A33, H⟩ := H
   (try dsimp only at H)
   obtain ⟨rfl, rfl⟩ := s2_ H
   obtain ⟨hz_, hz_, hz_, hz_, hz_, hz_, hz_, hz_, hz_, hz_⟩ := cs5_ BK442.out
   go_wp2_with (first | ((with_reducible refine gate_callee (f := 72) rfl ?_); refine goesL_ (some 32) rfl rfl Try.func72 (by kernel_rfl) rfl #[.agg #[.bool a0_0, .slice A0_1 l0_1.length c0_1, .slice A0_2 l0_2.length c0_2, .slice A0_3 l0_3.length c0_3, .slice A0_4 l0_4.length c0_4], .int .i64 a1] rfl z0_ ?_; (with_reducible refine (impl_pending.calls k a0_0 _ _ l0_1 _ _ l0_2 _ _ l0_3 _ _ l0_4 a1 t473 _ ?side1 ?side2 ?side3 ?side4 ?side5 ?side6 ?side7 ?side8 A31.out).mono ?_); (case side1 => exact z103_); (case side2 => exact z126_); (case side3 => exact z106_); (case side4 => exact HC0_2.out); (case side5 => exact z107_); (case side6 => exact HC0_3.out); (case side7 => exact z105_); (case side8 => exact HC0_4.out); rintro e w35 ⟨v474, rfl, ho0, hb⟩; refine ⟨_, rfl, ?_⟩; replace HO446 := q_ (Kd.R_below z27_ hb); replace HO450 := q_ (Kd.V_elder' z38_ (Kd.R_base ho0) hb); replace HO453 := q_ (Kd.V_elder' z39_ (Kd.R_base ho0) hb); replace HO456 := q_ (Kd.V_elder' z40_ (Kd.R_base ho0) hb); replace HO459 := q_ (Kd.V_elder' z41_ (Kd.R_base ho0) hb); have HO475 := q_ (Kd.R_lower ho0 (below_size cb_)); replace BK442 := rb_ BK442 hb; replace HB := hb_ hb; (try clear hb); (try clear hb2); (try clear hk); (try clear hi); (try clear ho0); obtain ⟨Ao36, co36, eo36⟩ := Kd.R_slice HO446.out; subst eo36; obtain ⟨Ao37, co37, eo37⟩ := Kd.R_slice HO475.out; subst eo37) | ((with_reducible refine gate_callee (f := 82) rfl ?_); refine goesL_ (some 33) rfl rfl Try.func82 (by kernel_rfl) rfl #[.slice Ao36 y444.length co36, .slice Ao37 t473.length co37] rfl z0_ ?_; (with_reducible refine (impl_MapAll.calls k _ _ y444 _ _ t473 t476 _ ?side1 ?side2 ?side3 ?side4 A32.out).mono ?_); (case side1 => repeat (first | exact (Kd.R_reads' HO446.out).2.2 | (with_reducible refine Kd.C_alloc ?_ _) | (with_reducible refine Kd.C_drewN ?_ _) | (with_reducible refine Kd.C_drew ?_))); (case side2 => exact (Kd.R_reads' HO446.out).2.1); (case side3 => repeat (first | exact (Kd.R_reads' HO475.out).2.2 | (with_reducible refine Kd.C_alloc ?_ _) | (with_reducible refine Kd.C_drewN ?_ _) | (with_reducible refine Kd.C_drew ?_))); (case side4 => exact (Kd.R_reads' HO475.out).2.1); rintro e w38 ⟨v477, rfl, ho0, hb⟩; refine ⟨_, rfl, ?_⟩; replace HO450 := q_ (Kd.V_elder' z38_ (Kd.R_base ho0) hb); replace HO453 := q_ (Kd.V_elder' z39_ (Kd.R_base ho0) hb); replace HO456 := q_ (Kd.V_elder' z40_ (Kd.R_base ho0) hb); replace HO459 := q_ (Kd.V_elder' z41_ (Kd.R_base ho0) hb); replace HO475 := q_ (Kd.R_below z90_ hb); have HO478 := q_ (Kd.R_lower (Kd.R_new' ho0 (Kd.R_lt z27_)) (below_size cb_)); replace HO446 := q_ (Kd.R_elder' z27_ (Kd.R_base ho0) hb); replace BK442 := rb_ BK442 hb; replace HB := hb_ hb; (try clear hb); (try clear hb2); (try clear hk); (try clear hi); (try clear ho0); obtain ⟨Ao39, co39, eo39⟩ := Kd.R_slice HO478.out; subst eo39) | ((with_reducible refine gate_callee (f := 54) rfl ?_); refine goesL_ (some 35) rfl rfl Try.func54 (by kernel_rfl) rfl #[.slice Ao39 t476.length co39, .int .i64 a1] rfl z0_ ?_; (with_reducible refine (impl_MapGet.calls k _ _ t476 a1 t479 t480 _ ?side1 ?side2 A33.out).mono ?_); (case side1 => repeat (first | exact (Kd.R_reads' HO478.out).2.2 | (with_reducible refine Kd.C_alloc ?_ _) | (with_reducible refine Kd.C_drewN ?_ _) | (with_reducible refine Kd.C_drew ?_))); (case side2 => exact (Kd.R_reads' HO478.out).2.1); rintro e w40 ⟨rfl, hb⟩; refine ⟨_, rfl, ?_⟩; replace HO446 := q_ (Kd.R_below z27_ hb); replace HO450 := q_ (Kd.V_below z38_ hb); replace HO453 := q_ (Kd.V_below z39_ hb); replace HO456 := q_ (Kd.V_below z40_ hb); replace HO459 := q_ (Kd.V_below z41_ hb); replace HO475 := q_ (Kd.R_below z90_ hb); replace HO478 := q_ (Kd.R_below (by (with_reducible repeat (first | apply Kd.R_alloc | apply Kd.R_drewN | apply Kd.R_drew)); exact HO478.out) hb); replace BK442 := rb_ BK442 hb; replace HB := hb_ hb; (try clear hb); (try clear hb2); (try clear hk); (try clear hi)))
   go_ret2
   exact ⟨z1_, cb_⟩
 ·obtain ⟨rfl, rfl⟩ := s2_ H
  go_wp2
  go_ret2
  exact ⟨z1_, cb_⟩

/-! ### laws_FnExactTreeGet: function 9 -/
def laws_FnExactTreeGet.j0 : Nat → Bool → Bool → List (S107) → List Int → List (S27) → List (S109) → Bool → List (S92) → List Int → List (S34) → List (S72) → Option (Bool)
 | 0, _, _, _, _, _, _, _, _, _, _, _ => none
 | k + 1, x38, x482000, x482001, x482002, x482003, x482004, x512000, x512001, x512002, x512003, x512004 => if x38 = true then (some false) else ((laws_toTree.f k x482000 x482001 x482002 x482003 x482004).bind fun bt514 => ((laws_eqTree.f k x512000 x512001 x512002 x512003 x512004 bt514.1 bt514.2.1 bt514.2.2.1 bt514.2.2.2.1 bt514.2.2.2.2).bind fun t527 => (if t527 = true then (some true) else (some false))))
def laws_FnExactTreeGet.f (k : Nat) (a0_0 : Bool) (l0_1 : List (S107)) (l0_2 : List Int) (l0_3 : List (S27)) (l0_4 : List (S109)) (a1 : Int) : Option (Bool) := (laws_szTree.f k a0_0 l0_1 l0_2 l0_3 l0_4 1048576).bind fun t482 => (if t482 < 0 then (some true) else ((laws_toTree.f k a0_0 l0_1 l0_2 l0_3 l0_4).bind fun bt483 => ((spec_TreeGet.f k bt483.1 bt483.2.1 bt483.2.2.1 bt483.2.2.2.1 bt483.2.2.2.2 a1).bind fun bt496 => ((laws_toTree.f k a0_0 l0_1 l0_2 l0_3 l0_4).bind fun bt498 => ((impl_TreeGet.f k bt498.1 bt498.2.1 bt498.2.2.1 bt498.2.2.2.1 bt498.2.2.2.2 a1).bind fun bt512 => (if bt512.1 = bt496.1 then (laws_FnExactTreeGet.j0 k (bt512.2 != bt496.2) a0_0 l0_1 l0_2 l0_3 l0_4 bt498.1 bt498.2.1 bt498.2.2.1 bt498.2.2.2.1 bt498.2.2.2.2) else (laws_FnExactTreeGet.j0 k true a0_0 l0_1 l0_2 l0_3 l0_4 bt498.1 bt498.2.1 bt498.2.2.1 bt498.2.2.2.1 bt498.2.2.2.2)))))))
theorem laws_FnExactTreeGet.mono_l : ∀ k, (∀ y0 y1 y2 y3 y4 y5 y6 y7 y8 y9 y10, LeO (laws_FnExactTreeGet.j0 k y0 y1 y2 y3 y4 y5 y6 y7 y8 y9 y10) (laws_FnExactTreeGet.j0 (k + 1) y0 y1 y2 y3 y4 y5 y6 y7 y8 y9 y10))
 | 0 => fun _ _ _ _ _ _ _ _ _ _ _ r h => by simp [laws_FnExactTreeGet.j0] at h
 | k + 1 => by
  have ih0 := laws_FnExactTreeGet.mono_l k
  ·intro y0 y1 y2 y3 y4 y5 y6 y7 y8 y9 y10
   unfold laws_FnExactTreeGet.j0
   have m0 := @impl_TreeGet.mono
   have m1 := @laws_eqTree.mono
   have m2 := @laws_szTree.mono
   have m3 := @laws_toTree.mono
   have m4 := @spec_TreeGet.mono
   exact zm_
theorem laws_FnExactTreeGet.mono : ∀ a0 a1 a2 a3 a4 a5 k, LeO (laws_FnExactTreeGet.f k a0 a1 a2 a3 a4 a5) (laws_FnExactTreeGet.f (k + 1) a0 a1 a2 a3 a4 a5) := by
 intro a0 a1 a2 a3 a4 a5 k
 have ih0 := laws_FnExactTreeGet.mono_l k
 unfold laws_FnExactTreeGet.f
 have m0 := @impl_TreeGet.mono
 have m1 := @laws_eqTree.mono
 have m2 := @laws_szTree.mono
 have m3 := @laws_toTree.mono
 have m4 := @spec_TreeGet.mono
 exact zm_
set_option maxHeartbeats 8000000 in
set_option maxRecDepth 100000 in
theorem laws_FnExactTreeGet.calls (k : Nat) (a0_0 : Bool) (A0_1 : Option Addr) (c0_1 : Nat) (l0_1 : List (S107)) (A0_2 : Option Addr) (c0_2 : Nat) (l0_2 : List Int) (A0_3 : Option Addr) (c0_3 : Nat) (l0_3 : List (S27)) (A0_4 : Option Addr) (c0_4 : Nat) (l0_4 : List (S109)) (a1 : Int) (r : Bool) (w : World) (hr0_1 : Kd.C k107 w A0_1 l0_1.length l0_1) (hc0_1 : l0_1.length ≤ c0_1) (hr0_2 : Kd.C (Kd.int .i64) w A0_2 l0_2.length l0_2) (hc0_2 : l0_2.length ≤ c0_2) (hr0_3 : Kd.C k27 w A0_3 l0_3.length l0_3) (hc0_3 : l0_3.length ≤ c0_3) (hr0_4 : Kd.C k109 w A0_4 l0_4.length l0_4) (hc0_4 : l0_4.length ≤ c0_4) (h : laws_FnExactTreeGet.f k a0_0 l0_1 l0_2 l0_3 l0_4 a1 = some r) :
  Calls Try.prog 9 #[.agg #[.bool a0_0, .slice A0_1 l0_1.length c0_1, .slice A0_2 l0_2.length c0_2, .slice A0_3 l0_3.length c0_3, .slice A0_4 l0_4.length c0_4], .int .i64 a1] w fun e w' => e = .returned (.bool r) ∧ Below w.heap.size w w' := by
 have hu27 := Try.underlying27
 have hu34 := Try.underlying34
 have HR0_1 := q_ hr0_1
 have HC0_1 := q_ hc0_1
 clear hr0_1 hc0_1
 have HR0_2 := q_ hr0_2
 have HC0_2 := q_ hc0_2
 clear hr0_2 hc0_2
 have HR0_3 := q_ hr0_3
 have HC0_3 := q_ hc0_3
 clear hr0_3 hc0_3
 have HR0_4 := q_ hr0_4
 have HC0_4 := q_ hc0_4
 clear hr0_4 hc0_4
 have HB := q_ (Below.refl w.heap.size w)
 have H := h; clear h
 unfold laws_FnExactTreeGet.f at H
 replace H := bi_ H; obtain ⟨t482, A3, H⟩ := H
 have HC4 := q_ H
 clear H
 go_enter Try.func9, Try.ntmps9
 go_upto_if 15 with (first | ((with_reducible refine gate_dst (N := 2) rfl ?_); refine box_event ?hg (N := 2) ?hd (cs := #[.bool a0_0, .slice A0_1 l0_1.length c0_1, .slice A0_2 l0_2.length c0_2, .slice A0_3 l0_3.length c0_3, .slice A0_4 l0_4.length c0_4]) (t := 27) ?hr ?_; (case hd => rfl); (case hg => rfl); (case hr => exact z104_); intro gb481 hg w5 hbox hb; have BK481 := q_ (hbox); have GW481 := ge_ hg; have GE481 := ge_ hg; replace HB := hb_ hb; clear hb hbox hg; obtain ⟨hz_, hz_, hz_, hz_, hz_, hz_, hz_, hz_, hz_, hz_⟩ := cs5_ BK481.out) | ((with_reducible refine gate_callee (f := 15) rfl ?_); refine goesL_ (some 13) rfl rfl Try.func15 (by kernel_rfl) rfl #[.agg #[.bool a0_0, .slice A0_1 l0_1.length c0_1, .slice A0_2 l0_2.length c0_2, .slice A0_3 l0_3.length c0_3, .slice A0_4 l0_4.length c0_4], .int .i64 1048576] rfl z0_ ?_; (with_reducible refine (laws_szTree.calls k a0_0 _ _ l0_1 _ _ l0_2 _ _ l0_3 _ _ l0_4 1048576 t482 _ ?side1 ?side2 ?side3 ?side4 ?side5 ?side6 ?side7 ?side8 A3.out).mono ?_); (case side1 => exact z103_); (case side2 => exact z126_); (case side3 => exact z106_); (case side4 => exact HC0_2.out); (case side5 => exact z107_); (case side6 => exact HC0_3.out); (case side7 => exact z105_); (case side8 => exact HC0_4.out); rintro e w7 ⟨rfl, hb⟩; refine ⟨_, rfl, ?_⟩; replace BK481 := rb_ BK481 hb; replace HB := hb_ hb; (try clear hb); (try clear hb2); (try clear hk); (try clear hi)))
 (try simp only [Act.put, List.setIfInBounds_toArray, List.set_cons_zero, List.set_cons_succ])
 have H := HC4.out
 clear HC4
 replace H := kd_ H; rcases H with ⟨c8b0, H⟩ | ⟨c8b0, H⟩
 ·(first | rw [c8b0] | rw [c8b1] | (simp only [i64_w, i32_w]; first | rw [c8b0] | rw [c8b1]) | rw [c8b2] | skip)
  obtain rfl := si_ H
  go_wp2
  go_ret
  exact ⟨z1_, cb_⟩
 ·(first | rw [c8b0] | rw [c8b1] | (simp only [i64_w, i32_w]; first | rw [c8b0] | rw [c8b1]) | rw [c8b2] | skip)
  replace H := bi_ H; obtain ⟨⟨t483, t484, t487, t490, t493⟩, A9, H⟩ := H
  (try dsimp only at H)
  replace H := bi_ H; obtain ⟨⟨t496, t497⟩, A10, H⟩ := H
  (try dsimp only at H)
  replace H := bi_ H; obtain ⟨⟨t498, t499, t502, t505, t508⟩, A11, H⟩ := H
  (try dsimp only at H)
  replace H := bi_ H; obtain ⟨⟨t512, t513⟩, A12, H⟩ := H
  (try dsimp only at H)
  have HC13 := q_ H
  clear H
  obtain ⟨hz_, hz_, hz_, hz_, hz_, hz_, hz_, hz_, hz_, hz_⟩ := cs5_ BK481.out
  go_upto_region 8 with (first | ((with_reducible refine gate_callee (f := 17) rfl ?_); refine goesL_ (some 18) rfl rfl Try.func17 (by kernel_rfl) rfl #[.agg #[.bool a0_0, .slice A0_1 l0_1.length c0_1, .slice A0_2 l0_2.length c0_2, .slice A0_3 l0_3.length c0_3, .slice A0_4 l0_4.length c0_4]] rfl z0_ ?_; (with_reducible refine (laws_toTree.calls k a0_0 _ _ l0_1 _ _ l0_2 _ _ l0_3 _ _ l0_4 t483 t484 t487 t490 t493 _ ?side1 ?side2 ?side3 ?side4 ?side5 ?side6 ?side7 ?side8 A9.out).mono ?_); (case side1 => exact z103_); (case side2 => exact z126_); (case side3 => exact z106_); (case side4 => exact HC0_2.out); (case side5 => exact z107_); (case side6 => exact HC0_3.out); (case side7 => exact z105_); (case side8 => exact HC0_4.out); rintro e w15 ⟨v485, v488, v491, v494, rfl, ho0, ho1, ho2, ho3, hb⟩; refine ⟨_, rfl, ?_⟩; have HO486 := q_ (Kd.R_lower ho0 (below_size cb_)); have HO489 := q_ (Kd.R_lower ho1 (below_size cb_)); have HO492 := q_ (Kd.R_lower ho2 (below_size cb_)); have HO495 := q_ (Kd.R_lower ho3 (below_size cb_)); replace BK481 := rb_ BK481 hb; replace HB := hb_ hb; (try clear hb); (try clear hb2); (try clear hk); (try clear hi); (try clear ho0); (try clear ho1); (try clear ho2); (try clear ho3); obtain ⟨Ao16, co16, eo16⟩ := Kd.R_slice HO486.out; subst eo16; obtain ⟨Ao17, co17, eo17⟩ := Kd.R_slice HO489.out; subst eo17; obtain ⟨Ao18, co18, eo18⟩ := Kd.R_slice HO492.out; subst eo18; obtain ⟨Ao19, co19, eo19⟩ := Kd.R_slice HO495.out; subst eo19) | ((with_reducible refine gate_callee (f := 34) rfl ?_); refine goesL_ (some 20) rfl rfl Try.func34 (by kernel_rfl) rfl #[.agg #[.bool t483, .slice Ao16 t484.length co16, .slice Ao17 t487.length co17, .slice Ao18 t490.length co18, .slice Ao19 t493.length co19], .int .i64 a1] rfl z0_ ?_; (with_reducible refine (spec_TreeGet.calls k t483 (fun k_ => some k_ = (.slice Ao16 t484.length co16 : Value).ownBlock) _ _ t484 (fun k_ => some k_ = (.slice Ao17 t487.length co17 : Value).ownBlock) _ _ t487 (fun k_ => ((some k_ ≠ (.slice Ao16 t484.length co16 : Value).ownBlock ∧ (some k_ ≠ (.slice Ao17 t487.length co17 : Value).ownBlock ∧ some k_ ≠ (.slice Ao19 t493.length co19 : Value).ownBlock)) ∧ k_ ≠ gb481)) _ _ t490 (fun k_ => some k_ = (.slice Ao19 t493.length co19 : Value).ownBlock) _ _ t493 a1 t496 t497 _ ?side1 ?side2 ?side3 ?side4 A10.out).mono ?_); (case side1 => exact Kd.R_V (Kd.R_tight rfl (Kd.R_types (Kd.R_apart' (Kd.R_apart' (Kd.R_apart' (HO486.out) (Kd.R_typed HO489.out) (by decide)) (Kd.R_typed HO492.out) (by decide)) (Kd.R_typed HO495.out) (by decide)) BK481.out (by decide)))); (case side2 => exact Kd.R_V (Kd.R_tight rfl (Kd.R_types (Kd.R_apart' (Kd.R_apart' (Kd.R_apart' (HO489.out) (Kd.R_typed HO486.out) (by decide)) (Kd.R_typed HO492.out) (by decide)) (Kd.R_typed HO495.out) (by decide)) BK481.out (by decide)))); (case side3 => exact Kd.R_V (Kd.R_types (HO492.out) BK481.out (by decide))); (case side4 => exact Kd.R_V (Kd.R_tight rfl (Kd.R_types (Kd.R_apart' (Kd.R_apart' (Kd.R_apart' (HO495.out) (Kd.R_typed HO486.out) (by decide)) (Kd.R_typed HO489.out) (by decide)) (Kd.R_typed HO492.out) (by decide)) BK481.out (by decide)))); rintro e w20 ⟨rfl, hb⟩; refine ⟨_, rfl, ?_⟩; replace HO486 := q_ (Kd.R_below z54_ hb); replace HO489 := q_ (Kd.R_below z55_ hb); replace HO492 := q_ (Kd.R_below z68_ hb); replace HO495 := q_ (Kd.R_below z56_ hb); replace BK481 := rb_ BK481 hb; replace HB := hb_ hb; (try clear hb); (try clear hb2); (try clear hk); (try clear hi); obtain ⟨hz_, hz_, hz_, hz_, hz_, hz_, hz_, hz_, hz_, hz_⟩ := cs5_ BK481.out) | ((with_reducible refine gate_callee (f := 17) rfl ?_); refine goesL_ (some 24) rfl rfl Try.func17 (by kernel_rfl) rfl #[.agg #[.bool a0_0, .slice A0_1 l0_1.length c0_1, .slice A0_2 l0_2.length c0_2, .slice A0_3 l0_3.length c0_3, .slice A0_4 l0_4.length c0_4]] rfl z0_ ?_; (with_reducible refine (laws_toTree.calls k a0_0 _ _ l0_1 _ _ l0_2 _ _ l0_3 _ _ l0_4 t498 t499 t502 t505 t508 _ ?side1 ?side2 ?side3 ?side4 ?side5 ?side6 ?side7 ?side8 A11.out).mono ?_); (case side1 => exact z103_); (case side2 => exact z126_); (case side3 => exact z106_); (case side4 => exact HC0_2.out); (case side5 => exact z107_); (case side6 => exact HC0_3.out); (case side7 => exact z105_); (case side8 => exact HC0_4.out); rintro e w22 ⟨v500, v503, v506, v509, rfl, ho0, ho1, ho2, ho3, hb⟩; refine ⟨_, rfl, ?_⟩; have HO501 := q_ (Kd.R_lower (Kd.R_new' ho0 (Kd.R_lt z54_)) (below_size cb_)); have HO504 := q_ (Kd.R_lower (Kd.R_new' ho1 (Kd.R_lt z55_)) (below_size cb_)); have HO507 := q_ (Kd.R_lower (Kd.R_new' (Kd.R_new' (Kd.R_new' (Kd.R_new' ho2 (Kd.R_lt z54_)) (Kd.R_lt z55_)) (Kd.R_lt z68_)) (Kd.R_lt z56_)) (below_size cb_)); replace HO486 := q_ (Kd.R_elder' z54_ (Kd.R_base ho0) hb); replace HO489 := q_ (Kd.R_elder' z55_ (Kd.R_base ho1) hb); replace HO492 := q_ (Kd.R_mono (Kd.R_told (Kd.R_told (Kd.R_told (Kd.R_told (Kd.R_old z68_ hb) (Kd.R_base ho0)) (Kd.R_base ho1)) (Kd.R_base ho2)) (Kd.R_base ho3)) (fun _ h_ => h_.1)); have HO510 := q_ (Kd.R_lower (Kd.R_new' ho3 (Kd.R_lt z56_)) (below_size cb_)); replace HO495 := q_ (Kd.R_elder' z56_ (Kd.R_base ho3) hb); replace BK481 := rb_ BK481 hb; replace HB := hb_ hb; (try clear hb); (try clear hb2); (try clear hk); (try clear hi); (try clear ho0); (try clear ho1); (try clear ho2); (try clear ho3)) | ((with_reducible refine gate_dst (N := 8) rfl ?_); refine box_event ?hg (N := 8) ?hd (cs := #[.bool false, .slice none 0 0, .slice none 0 0, .slice none 0 0, .slice none 0 0]) (t := 34) ?hr ?_; (case hd => rfl); (case hg => rfl); (case hr => exact z104_); intro gb511 hg w23 hbox hb; replace HO486 := q_ (Kd.R_below z54_ hb); replace HO489 := q_ (Kd.R_below z55_ hb); replace HO492 := q_ (Kd.R_below (Kd.R_elderB z68_ gb511 (Nat.le_of_eq hg.symm)) hb); replace HO495 := q_ (Kd.R_below z56_ hb); replace HO501 := q_ (Kd.R_below (by (with_reducible repeat (first | apply Kd.R_alloc | apply Kd.R_drewN | apply Kd.R_drew)); exact HO501.out) hb); replace HO504 := q_ (Kd.R_below (by (with_reducible repeat (first | apply Kd.R_alloc | apply Kd.R_drewN | apply Kd.R_drew)); exact HO504.out) hb); replace HO507 := q_ (Kd.R_below (Kd.R_elderB (by (with_reducible repeat (first | apply Kd.R_alloc | apply Kd.R_drewN | apply Kd.R_drew)); exact HO507.out) gb511 (Nat.le_of_eq hg.symm)) hb); replace HO510 := q_ (Kd.R_below (by (with_reducible repeat (first | apply Kd.R_alloc | apply Kd.R_drewN | apply Kd.R_drew)); exact HO510.out) hb); have BK511 := q_ (hbox); have GW511 := ge_ hg; have GE511 := ge_ hg; replace HB := hb_ hb; have NB481_511 := nl_ hg BK481; have NB511_481 := nr_ hg BK481; replace BK481 := rb_ BK481 hb; clear hb hbox hg; have hnb24 := NB511_481.out; have hnc24 := NB481_511.out; obtain ⟨hz_, hz_, hz_, hz_, hz_, hz_, hz_, hz_, hz_, hz_⟩ := cs5_ BK511.out; obtain ⟨Ao26, co26, eo26⟩ := Kd.R_slice HO501.out; subst eo26; obtain ⟨Ao27, co27, eo27⟩ := Kd.R_slice HO504.out; subst eo27; obtain ⟨Ao28, co28, eo28⟩ := Kd.R_slice HO507.out; subst eo28; obtain ⟨Ao29, co29, eo29⟩ := Kd.R_slice HO510.out; subst eo29) | ((with_reducible refine gate_callee (f := 35) rfl ?_); refine goesL_ (some 28) rfl rfl Try.func35 (by kernel_rfl) rfl #[.agg #[.bool t498, .slice Ao26 t499.length co26, .slice Ao27 t502.length co27, .slice Ao28 t505.length co28, .slice Ao29 t508.length co29], .int .i64 a1] rfl z0_ ?_; (with_reducible refine (impl_TreeGet.calls k t498 _ _ t499 _ _ t502 _ _ t505 _ _ t508 a1 t512 t513 _ ?side1 ?side2 ?side3 ?side4 ?side5 ?side6 ?side7 ?side8 A12.out).mono ?_); (case side1 => refine (Kd.R_reads' (e := 92) (base := w.heap.size) (ok := fun k_ => (True ∧ some k_ ≠ (.slice Ao16 t484.length co16 : Value).ownBlock)) (n := t499.length) (c := co26) ?_).2.2; exact (by (with_reducible repeat (first | apply Kd.R_alloc | apply Kd.R_drewN | apply Kd.R_drew)); exact (Kd.R_mono (Kd.R_far (p := ⟨gb511, 4, none⟩) (Kd.R_far (p := ⟨gb511, 3, none⟩) (Kd.R_far (p := ⟨gb511, 2, none⟩) (Kd.R_far (p := ⟨gb511, 1, none⟩) (Kd.R_far (p := ⟨gb511, 0, none⟩) (Kd.R_types HO501.out BK511.out (by decide)) (fun _ hk => hk.2) (.bool t498)) (fun _ hk => hk.2) (.slice Ao26 t499.length co26)) (fun _ hk => hk.2) (.slice Ao27 t502.length co27)) (fun _ hk => hk.2) (.slice Ao28 t505.length co28)) (fun _ hk => hk.2) (.slice Ao29 t508.length co29)) (fun _ h_ => h_.1)))); (case side2 => exact (Kd.R_reads' HO501.out).2.1); (case side3 => refine (Kd.R_reads' (e := 3) (base := w.heap.size) (ok := fun k_ => (True ∧ some k_ ≠ (.slice Ao17 t487.length co17 : Value).ownBlock)) (n := t502.length) (c := co27) ?_).2.2; exact (by (with_reducible repeat (first | apply Kd.R_alloc | apply Kd.R_drewN | apply Kd.R_drew)); exact (Kd.R_mono (Kd.R_far (p := ⟨gb511, 4, none⟩) (Kd.R_far (p := ⟨gb511, 3, none⟩) (Kd.R_far (p := ⟨gb511, 2, none⟩) (Kd.R_far (p := ⟨gb511, 1, none⟩) (Kd.R_far (p := ⟨gb511, 0, none⟩) (Kd.R_types HO504.out BK511.out (by decide)) (fun _ hk => hk.2) (.bool t498)) (fun _ hk => hk.2) (.slice Ao26 t499.length co26)) (fun _ hk => hk.2) (.slice Ao27 t502.length co27)) (fun _ hk => hk.2) (.slice Ao28 t505.length co28)) (fun _ hk => hk.2) (.slice Ao29 t508.length co29)) (fun _ h_ => h_.1)))); (case side4 => exact (Kd.R_reads' HO504.out).2.1); (case side5 => refine (Kd.R_reads' (e := 34) (base := w.heap.size) (ok := fun k_ => ((((((some k_ ≠ (.slice Ao26 t499.length co26 : Value).ownBlock ∧ (some k_ ≠ (.slice Ao27 t502.length co27 : Value).ownBlock ∧ some k_ ≠ (.slice Ao29 t508.length co29 : Value).ownBlock)) ∧ some k_ ≠ (.slice Ao16 t484.length co16 : Value).ownBlock) ∧ some k_ ≠ (.slice Ao17 t487.length co17 : Value).ownBlock) ∧ some k_ ≠ (.slice Ao18 t490.length co18 : Value).ownBlock) ∧ some k_ ≠ (.slice Ao19 t493.length co19 : Value).ownBlock) ∧ k_ ≠ gb511)) (n := t505.length) (c := co28) ?_).2.2; exact z26_); (case side6 => exact (Kd.R_reads' HO507.out).2.1); (case side7 => refine (Kd.R_reads' (e := 72) (base := w.heap.size) (ok := fun k_ => (True ∧ some k_ ≠ (.slice Ao19 t493.length co19 : Value).ownBlock)) (n := t508.length) (c := co29) ?_).2.2; exact (by (with_reducible repeat (first | apply Kd.R_alloc | apply Kd.R_drewN | apply Kd.R_drew)); exact (Kd.R_mono (Kd.R_far (p := ⟨gb511, 4, none⟩) (Kd.R_far (p := ⟨gb511, 3, none⟩) (Kd.R_far (p := ⟨gb511, 2, none⟩) (Kd.R_far (p := ⟨gb511, 1, none⟩) (Kd.R_far (p := ⟨gb511, 0, none⟩) (Kd.R_types HO510.out BK511.out (by decide)) (fun _ hk => hk.2) (.bool t498)) (fun _ hk => hk.2) (.slice Ao26 t499.length co26)) (fun _ hk => hk.2) (.slice Ao27 t502.length co27)) (fun _ hk => hk.2) (.slice Ao28 t505.length co28)) (fun _ hk => hk.2) (.slice Ao29 t508.length co29)) (fun _ h_ => h_.1)))); (case side8 => exact (Kd.R_reads' HO510.out).2.1); rintro e w30 ⟨rfl, hb⟩; refine ⟨_, rfl, ?_⟩; replace HO486 := q_ (Kd.R_below (by (with_reducible repeat (first | apply Kd.R_alloc | apply Kd.R_drewN | apply Kd.R_drew)); exact (Kd.R_mono (Kd.R_far (p := ⟨gb511, 4, none⟩) (Kd.R_far (p := ⟨gb511, 3, none⟩) (Kd.R_far (p := ⟨gb511, 2, none⟩) (Kd.R_far (p := ⟨gb511, 1, none⟩) (Kd.R_far (p := ⟨gb511, 0, none⟩) (Kd.R_types HO486.out BK511.out (by decide)) (fun _ hk => hk.2) (.bool t498)) (fun _ hk => hk.2) (.slice Ao26 t499.length co26)) (fun _ hk => hk.2) (.slice Ao27 t502.length co27)) (fun _ hk => hk.2) (.slice Ao28 t505.length co28)) (fun _ hk => hk.2) (.slice Ao29 t508.length co29)) (fun _ h_ => h_.1))) hb); replace HO489 := q_ (Kd.R_below (by (with_reducible repeat (first | apply Kd.R_alloc | apply Kd.R_drewN | apply Kd.R_drew)); exact (Kd.R_mono (Kd.R_far (p := ⟨gb511, 4, none⟩) (Kd.R_far (p := ⟨gb511, 3, none⟩) (Kd.R_far (p := ⟨gb511, 2, none⟩) (Kd.R_far (p := ⟨gb511, 1, none⟩) (Kd.R_far (p := ⟨gb511, 0, none⟩) (Kd.R_types HO489.out BK511.out (by decide)) (fun _ hk => hk.2) (.bool t498)) (fun _ hk => hk.2) (.slice Ao26 t499.length co26)) (fun _ hk => hk.2) (.slice Ao27 t502.length co27)) (fun _ hk => hk.2) (.slice Ao28 t505.length co28)) (fun _ hk => hk.2) (.slice Ao29 t508.length co29)) (fun _ h_ => h_.1))) hb); replace HO492 := q_ (Kd.R_below (by (with_reducible repeat (first | apply Kd.R_alloc | apply Kd.R_drewN | apply Kd.R_drew)); exact (Kd.R_mono (Kd.R_far (p := ⟨gb511, 4, none⟩) (Kd.R_far (p := ⟨gb511, 3, none⟩) (Kd.R_far (p := ⟨gb511, 2, none⟩) (Kd.R_far (p := ⟨gb511, 1, none⟩) (Kd.R_far (p := ⟨gb511, 0, none⟩) (Kd.R_mono HO492.out (fun k_ hk => (⟨hk, hk.2⟩ : _ ∧ k_ ≠ gb511))) (fun _ hk => hk.2) (.bool t498)) (fun _ hk => hk.2) (.slice Ao26 t499.length co26)) (fun _ hk => hk.2) (.slice Ao27 t502.length co27)) (fun _ hk => hk.2) (.slice Ao28 t505.length co28)) (fun _ hk => hk.2) (.slice Ao29 t508.length co29)) (fun _ h_ => h_.1))) hb); replace HO495 := q_ (Kd.R_below (by (with_reducible repeat (first | apply Kd.R_alloc | apply Kd.R_drewN | apply Kd.R_drew)); exact (Kd.R_mono (Kd.R_far (p := ⟨gb511, 4, none⟩) (Kd.R_far (p := ⟨gb511, 3, none⟩) (Kd.R_far (p := ⟨gb511, 2, none⟩) (Kd.R_far (p := ⟨gb511, 1, none⟩) (Kd.R_far (p := ⟨gb511, 0, none⟩) (Kd.R_types HO495.out BK511.out (by decide)) (fun _ hk => hk.2) (.bool t498)) (fun _ hk => hk.2) (.slice Ao26 t499.length co26)) (fun _ hk => hk.2) (.slice Ao27 t502.length co27)) (fun _ hk => hk.2) (.slice Ao28 t505.length co28)) (fun _ hk => hk.2) (.slice Ao29 t508.length co29)) (fun _ h_ => h_.1))) hb); replace HO501 := q_ (Kd.R_below (by (with_reducible repeat (first | apply Kd.R_alloc | apply Kd.R_drewN | apply Kd.R_drew)); exact (Kd.R_mono (Kd.R_far (p := ⟨gb511, 4, none⟩) (Kd.R_far (p := ⟨gb511, 3, none⟩) (Kd.R_far (p := ⟨gb511, 2, none⟩) (Kd.R_far (p := ⟨gb511, 1, none⟩) (Kd.R_far (p := ⟨gb511, 0, none⟩) (Kd.R_types HO501.out BK511.out (by decide)) (fun _ hk => hk.2) (.bool t498)) (fun _ hk => hk.2) (.slice Ao26 t499.length co26)) (fun _ hk => hk.2) (.slice Ao27 t502.length co27)) (fun _ hk => hk.2) (.slice Ao28 t505.length co28)) (fun _ hk => hk.2) (.slice Ao29 t508.length co29)) (fun _ h_ => h_.1))) hb); replace HO504 := q_ (Kd.R_below (by (with_reducible repeat (first | apply Kd.R_alloc | apply Kd.R_drewN | apply Kd.R_drew)); exact (Kd.R_mono (Kd.R_far (p := ⟨gb511, 4, none⟩) (Kd.R_far (p := ⟨gb511, 3, none⟩) (Kd.R_far (p := ⟨gb511, 2, none⟩) (Kd.R_far (p := ⟨gb511, 1, none⟩) (Kd.R_far (p := ⟨gb511, 0, none⟩) (Kd.R_types HO504.out BK511.out (by decide)) (fun _ hk => hk.2) (.bool t498)) (fun _ hk => hk.2) (.slice Ao26 t499.length co26)) (fun _ hk => hk.2) (.slice Ao27 t502.length co27)) (fun _ hk => hk.2) (.slice Ao28 t505.length co28)) (fun _ hk => hk.2) (.slice Ao29 t508.length co29)) (fun _ h_ => h_.1))) hb); replace HO507 := q_ (Kd.R_below z26_ hb); replace HO510 := q_ (Kd.R_below (by (with_reducible repeat (first | apply Kd.R_alloc | apply Kd.R_drewN | apply Kd.R_drew)); exact (Kd.R_mono (Kd.R_far (p := ⟨gb511, 4, none⟩) (Kd.R_far (p := ⟨gb511, 3, none⟩) (Kd.R_far (p := ⟨gb511, 2, none⟩) (Kd.R_far (p := ⟨gb511, 1, none⟩) (Kd.R_far (p := ⟨gb511, 0, none⟩) (Kd.R_types HO510.out BK511.out (by decide)) (fun _ hk => hk.2) (.bool t498)) (fun _ hk => hk.2) (.slice Ao26 t499.length co26)) (fun _ hk => hk.2) (.slice Ao27 t502.length co27)) (fun _ hk => hk.2) (.slice Ao28 t505.length co28)) (fun _ hk => hk.2) (.slice Ao29 t508.length co29)) (fun _ h_ => h_.1))) hb); replace BK481 := q_ (blk_below (g := gb481) (o := .cells #[.bool a0_0, .slice A0_1 l0_1.length c0_1, .slice A0_2 l0_2.length c0_2, .slice A0_3 l0_3.length c0_3, .slice A0_4 l0_4.length c0_4] 27 (0, 0)) (by (with_reducible repeat (first | refine blk_drewN ?_ _ | refine blk_drew ?_ | refine blk_alloc ?_ _)); refine blk_far ?_ NB481_511.out _; (with_reducible repeat (first | refine blk_drewN ?_ _ | refine blk_drew ?_ | refine blk_alloc ?_ _)); refine blk_far ?_ NB481_511.out _; (with_reducible repeat (first | refine blk_drewN ?_ _ | refine blk_drew ?_ | refine blk_alloc ?_ _)); refine blk_far ?_ NB481_511.out _; (with_reducible repeat (first | refine blk_drewN ?_ _ | refine blk_drew ?_ | refine blk_alloc ?_ _)); refine blk_far ?_ NB481_511.out _; (with_reducible repeat (first | refine blk_drewN ?_ _ | refine blk_drew ?_ | refine blk_alloc ?_ _)); refine blk_far ?_ NB481_511.out _; (with_reducible repeat (first | refine blk_drewN ?_ _ | refine blk_drew ?_ | refine blk_alloc ?_ _)); exact BK481.out) hb); replace BK511 := q_ (blk_below (g := gb511) (o := .cells #[.bool t498, .slice Ao26 t499.length co26, .slice Ao27 t502.length co27, .slice Ao28 t505.length co28, .slice Ao29 t508.length co29] 34 (0, 0)) (by (with_reducible repeat (first | refine blk_drewN ?_ _ | refine blk_drew ?_ | refine blk_alloc ?_ _)); refine blk_put (cs := #[.bool t498, .slice Ao26 t499.length co26, .slice Ao27 t502.length co27, .slice Ao28 t505.length co28, .slice none 0 0]) ?_ 4 _ rfl; (with_reducible repeat (first | refine blk_drewN ?_ _ | refine blk_drew ?_ | refine blk_alloc ?_ _)); refine blk_put (cs := #[.bool t498, .slice Ao26 t499.length co26, .slice Ao27 t502.length co27, .slice none 0 0, .slice none 0 0]) ?_ 3 _ rfl; (with_reducible repeat (first | refine blk_drewN ?_ _ | refine blk_drew ?_ | refine blk_alloc ?_ _)); refine blk_put (cs := #[.bool t498, .slice Ao26 t499.length co26, .slice none 0 0, .slice none 0 0, .slice none 0 0]) ?_ 2 _ rfl; (with_reducible repeat (first | refine blk_drewN ?_ _ | refine blk_drew ?_ | refine blk_alloc ?_ _)); refine blk_put (cs := #[.bool t498, .slice none 0 0, .slice none 0 0, .slice none 0 0, .slice none 0 0]) ?_ 1 _ rfl; (with_reducible repeat (first | refine blk_drewN ?_ _ | refine blk_drew ?_ | refine blk_alloc ?_ _)); refine blk_put (cs := #[.bool false, .slice none 0 0, .slice none 0 0, .slice none 0 0, .slice none 0 0]) ?_ 0 _ rfl; (with_reducible repeat (first | refine blk_drewN ?_ _ | refine blk_drew ?_ | refine blk_alloc ?_ _)); exact BK511.out) hb); replace HB := hb_ hb; (try clear hb); (try clear hb2); (try clear hk); (try clear hi)))
  (try simp only [Act.put, List.setIfInBounds_toArray, List.set_cons_zero, List.set_cons_succ])
  go_cut [38] (fun v38 wc => ∃ (kq : Nat) (x38_12 : Bool), v38 = .bool x38_12 ∧ Aside0 (laws_FnExactTreeGet.j0 kq x38_12 a0_0 l0_1 l0_2 l0_3 l0_4 t498 t499 t502 t505 t508 = some r) ∧ Aside0 (kq ≤ k) ∧ Aside0 (Kd.R k92 92 wc w.heap.size (fun _ => True) (.slice Ao26 t499.length co26) t499) ∧ Aside0 (Kd.R (Kd.int .i64) 3 wc w.heap.size (fun _ => True) (.slice Ao27 t502.length co27) t502) ∧ Aside0 (Kd.R k34 34 wc w.heap.size (fun k_ => some k_ ≠ ((.slice Ao26 t499.length co26) : Value).ownBlock ∧ some k_ ≠ ((.slice Ao27 t502.length co27) : Value).ownBlock ∧ some k_ ≠ ((.slice Ao29 t508.length co29) : Value).ownBlock ∧ k_ ≠ gb511) (.slice Ao28 t505.length co28) t505) ∧ Aside0 (Kd.R k72 72 wc w.heap.size (fun _ => True) (.slice Ao29 t508.length co29) t508) ∧ Aside0 (wc.heap[gb481]? = some (.cells #[.bool a0_0, (.slice A0_1 l0_1.length c0_1), (.slice A0_2 l0_2.length c0_2), (.slice A0_3 l0_3.length c0_3), (.slice A0_4 l0_4.length c0_4)] 27 (0, 0))) ∧ Aside0 (wc.heap[gb511]? = some (.cells #[.bool t498, (.slice Ao26 t499.length co26), (.slice Ao27 t502.length co27), (.slice Ao28 t505.length co28), (.slice Ao29 t508.length co29)] 34 (0, 0))) ∧ Aside0 (Below w.heap.size w wc))
  case first =>
   have H := HC13.out
   clear HC13
   replace H := ke_ H; rcases H with ⟨c31b0, c31b1, H⟩ | ⟨c31, c31b0, c31b1, H⟩
   ·(first | rw [c31b0] | rw [c31b1] | (simp only [i64_w, i32_w]; first | rw [c31b0] | rw [c31b1]) | rw [c31b2] | skip)
    have H' := q_ H
    clear H
    go_wp2
    go_meet
    case rel => exact ⟨_, ((t513 != t497)), z4_, H', ⟨z43_⟩, ⟨z81_⟩, ⟨z82_⟩, ⟨z71_⟩, ⟨z83_⟩, ⟨z86_⟩, ⟨z74_⟩, ⟨cb_⟩⟩
   ·(first | rw [c31b0] | rw [c31b1] | (simp only [i64_w, i32_w]; first | rw [c31b0] | rw [c31b1]) | rw [c31b2] | skip)
    have H' := q_ H
    clear H
    go_wp2
    go_meet
    case rel => exact ⟨_, (true), z4_, H', ⟨z43_⟩, ⟨z81_⟩, ⟨z82_⟩, ⟨z71_⟩, ⟨z83_⟩, ⟨z86_⟩, ⟨z74_⟩, ⟨cb_⟩⟩
  case rest =>
   clear HC13
   try clear c1
   try clear c2
   try clear p2
   try clear c3
   try clear c8
   try clear c8b0
   try clear c8b1
   try clear c8b2
   try clear c9
   try clear c15
   try clear c17
   try clear c24
   try clear c31
   try clear c31b0
   try clear c31b1
   try clear c31b2
   repeat clear hz_
   obtain ⟨kq, x38_12, rfl, HA, HJ12, HO_512001, HO_512002, HO_512003, HO_512004, BK481, BK511, HB⟩ := hcut
   obtain ⟨kj12, rfl, H⟩ := rn_ (k := kq) HA (by rintro rfl; simp only [laws_FnExactTreeGet.j0])
   clear HA
   simp only [laws_FnExactTreeGet.j0] at H
   replace H := kb_ H; rcases H with ⟨rfl, H⟩ | ⟨rfl, H⟩
   ·obtain rfl := si_ H
    go_wp2
    go_ret
    exact ⟨z1_, cb_⟩
   ·replace H := bi_ H; obtain ⟨⟨t514, t515, t518, t521, t524⟩, A33, H⟩ := H
    (try dsimp only at H)
    replace H := bi_ H; obtain ⟨t527, A34, H⟩ := H
    have HC35 := q_ H
    clear H
    try go_wp2
    replace HO_512001 := q_ (Kd.R_drew HO_512001.out)
    replace HO_512002 := q_ (Kd.R_drew HO_512002.out)
    replace HO_512003 := q_ (Kd.R_drew HO_512003.out)
    replace HO_512004 := q_ (Kd.R_drew HO_512004.out)
    replace BK481 := q_ (blk_drew BK481.out)
    replace BK511 := q_ (blk_drew BK511.out)
    replace HB := q_ (below_drew1 HB.out)
    refine start_ (n := 5) (S := fun w' => w'.cell? ⟨gb511, 0, none⟩ = some (.bool t498) ∧ w'.cell? ⟨gb511, 1, none⟩ = some (.slice Ao26 t499.length co26) ∧ w'.cell? ⟨gb511, 2, none⟩ = some (.slice Ao27 t502.length co27) ∧ w'.cell? ⟨gb511, 3, none⟩ = some (.slice Ao28 t505.length co28) ∧ w'.cell? ⟨gb511, 4, none⟩ = some (.slice Ao29 t508.length co29) ∧ w'.cell? ⟨gb481, 0, none⟩ = some (.bool a0_0) ∧ w'.cell? ⟨gb481, 1, none⟩ = some (.slice A0_1 l0_1.length c0_1) ∧ w'.cell? ⟨gb481, 2, none⟩ = some (.slice A0_2 l0_2.length c0_2) ∧ w'.cell? ⟨gb481, 3, none⟩ = some (.slice A0_3 l0_3.length c0_3) ∧ w'.cell? ⟨gb481, 4, none⟩ = some (.slice A0_4 l0_4.length c0_4)) (ds := []) (tf 0 5) (by kernel_rfl) rfl rfl ⟨(blk_cell BK511.out 0).trans rfl, (blk_cell BK511.out 1).trans rfl, (blk_cell BK511.out 2).trans rfl, (blk_cell BK511.out 3).trans rfl, (blk_cell BK511.out 4).trans rfl, (blk_cell BK481.out 0).trans rfl, (blk_cell BK481.out 1).trans rfl, (blk_cell BK481.out 2).trans rfl, (blk_cell BK481.out 3).trans rfl, (blk_cell BK481.out 4).trans rfl⟩ (fun hHeld => ?_)
    generalize wc.drew = w36 at HO_512001 HO_512002 HO_512003 HO_512004 BK481 BK511 HB hHeld ⊢
    refine take_ (i := 0) (N := some 39) (v := ?_) (a' := ?_) (tf 1 4) rfl rfl (by kernel_rfl) (fun _ _ _ h => h) (Or.inl ⟨by rfl, ?_⟩) hHeld ?_ ?_
    rotate_left
    ·rintro w' ⟨s0, s1, s2, s3, s4, s5, s6, s7, s8, s9⟩
     go_simp
     with_reducible rfl
    rotate_left
    ·simp only [Act.put, List.setIfInBounds_toArray, List.set_cons_zero, List.set_cons_succ, i64_w, i32_w]
     rfl
    refine take_ (i := 1) (N := some 40) (v := ?_) (a' := ?_) (tf 2 3) rfl rfl (by kernel_rfl) (fun _ _ _ h => h) (Or.inl ⟨by rfl, ?_⟩) hHeld ?_ ?_
    rotate_left
    ·rintro w' ⟨s0, s1, s2, s3, s4, s5, s6, s7, s8, s9⟩
     go_simp
     with_reducible rfl
    rotate_left
    ·simp only [Act.put, List.setIfInBounds_toArray, List.set_cons_zero, List.set_cons_succ, i64_w, i32_w]
     rfl
    refine one_ (i := 2) (N := some 41) (tf 3 2) rfl rfl (by kernel_rfl) (by decide) (fun K hK => ?_)
    refine goes_ Try.func17 (by kernel_rfl) rfl #[.agg #[.bool a0_0, .slice A0_1 l0_1.length c0_1, .slice A0_2 l0_2.length c0_2, .slice A0_3 l0_3.length c0_3, .slice A0_4 l0_4.length c0_4]] (by rfl) rfl rfl z0_ ?_
    with_reducible refine (laws_toTree.calls kj12 a0_0 _ _ l0_1 _ _ l0_2 _ _ l0_3 _ _ l0_4 t514 t515 t518 t521 t524 _ ?side1 ?side2 ?side3 ?side4 ?side5 ?side6 ?side7 ?side8 A33.out).mono ?_
    (case side1 => exact z103_)
    (case side2 => exact z126_)
    (case side3 => exact z106_)
    (case side4 => exact HC0_2.out)
    (case side5 => exact z107_)
    (case side6 => exact HC0_3.out)
    (case side7 => exact z105_)
    (case side8 => exact HC0_4.out)
    rintro e w37 ⟨v516, v519, v522, v525, rfl, ho0, ho1, ho2, ho3, hb⟩
    refine ⟨_, rfl, ?_⟩
    have HO517 := q_ (Kd.R_lower (Kd.R_new' ho0 (Kd.R_lt z62_)) (below_size cb_))
    have HO520 := q_ (Kd.R_lower (Kd.R_new' ho1 (Kd.R_lt z63_)) (below_size cb_))
    have HO523 := q_ (Kd.R_lower (Kd.R_newB (Kd.R_new' (Kd.R_new' (Kd.R_new' (Kd.R_new' ho2 (Kd.R_lt z62_)) (Kd.R_lt z63_)) (Kd.R_lt z75_)) (Kd.R_lt z64_)) (g := gb511) (o := .cells #[.bool t498, .slice Ao26 t499.length co26, .slice Ao27 t502.length co27, .slice Ao28 t505.length co28, .slice Ao29 t508.length co29] 34 (0, 0)) z74_) (below_size cb_))
    replace HO_512001 := q_ (Kd.R_elder' z62_ (Kd.R_base ho0) hb)
    replace HO_512002 := q_ (Kd.R_elder' z63_ (Kd.R_base ho1) hb)
    replace HO_512003 := q_ (Kd.R_mono (Kd.R_told (Kd.R_told (Kd.R_told (Kd.R_told (Kd.R_old z75_ hb) (Kd.R_base ho0)) (Kd.R_base ho1)) (Kd.R_base ho2)) (Kd.R_base ho3)) (fun _ h_ => h_.1))
    have HO526 := q_ (Kd.R_lower (Kd.R_new' ho3 (Kd.R_lt z64_)) (below_size cb_))
    replace HO_512004 := q_ (Kd.R_elder' z64_ (Kd.R_base ho3) hb)
    replace BK481 := rb_ BK481 hb
    replace BK511 := rb_ BK511 hb
    replace HB := hb_ hb
    (try clear hb)
    (try clear hb2)
    (try clear hk)
    (try clear hi)
    (try clear ho0)
    (try clear ho1)
    (try clear ho2)
    (try clear ho3)
    obtain ⟨Ao38, co38, eo38⟩ := Kd.R_slice HO517.out
    (first | subst eo38 | (injection eo38 with f1_ f2_ f3_; have f4_ := f1_.symm; have f5_ := f3_.symm; clear f1_ f2_ f3_; subst f4_; subst f5_))
    obtain ⟨Ao39, co39, eo39⟩ := Kd.R_slice HO520.out
    (first | subst eo39 | (injection eo39 with f1_ f2_ f3_; have f4_ := f1_.symm; have f5_ := f3_.symm; clear f1_ f2_ f3_; subst f4_; subst f5_))
    obtain ⟨Ao40, co40, eo40⟩ := Kd.R_slice HO523.out
    (first | subst eo40 | (injection eo40 with f1_ f2_ f3_; have f4_ := f1_.symm; have f5_ := f3_.symm; clear f1_ f2_ f3_; subst f4_; subst f5_))
    obtain ⟨Ao41, co41, eo41⟩ := Kd.R_slice HO526.out
    (first | subst eo41 | (injection eo41 with f1_ f2_ f3_; have f4_ := f1_.symm; have f5_ := f3_.symm; clear f1_ f2_ f3_; subst f4_; subst f5_))
    refine hK.out _ _ ⟨(blk_cell BK511.out 0).trans rfl, (blk_cell BK511.out 1).trans rfl, (blk_cell BK511.out 2).trans rfl, (blk_cell BK511.out 3).trans rfl, (blk_cell BK511.out 4).trans rfl, (blk_cell BK481.out 0).trans rfl, (blk_cell BK481.out 1).trans rfl, (blk_cell BK481.out 2).trans rfl, (blk_cell BK481.out 3).trans rfl, (blk_cell BK481.out 4).trans rfl⟩ (fun hHeld => ?_)
    clear hK K
    refine norm_ (a' := ?_) ?_ ?_
    rotate_left
    ·show Act.put _ (some 41) _ = _
     simp only [Act.put, List.setIfInBounds_toArray, List.set_cons_zero, List.set_cons_succ, i64_w, i32_w]
     rfl
    refine one_ (i := 3) (N := some 42) (tf 4 1) rfl rfl (by kernel_rfl) (by decide) (fun K hK => ?_)
    refine goes_ Try.func19 (by kernel_rfl) rfl #[.agg #[.bool t498, .slice Ao26 t499.length co26, .slice Ao27 t502.length co27, .slice Ao28 t505.length co28, .slice Ao29 t508.length co29], .agg #[.bool t514, .slice Ao38 t515.length co38, .slice Ao39 t518.length co39, .slice Ao40 t521.length co40, .slice Ao41 t524.length co41]] (by rfl) rfl rfl z0_ ?_
    with_reducible refine (laws_eqTree.calls kj12 t498 _ _ t499 _ _ t502 _ _ t505 _ _ t508 t514 _ _ t515 _ _ t518 _ _ t521 _ _ t524 t527 _ ?side1 ?side2 ?side3 ?side4 ?side5 ?side6 ?side7 ?side8 ?side9 ?side10 ?side11 ?side12 ?side13 ?side14 ?side15 ?side16 A34.out).mono ?_
    (case side1 => repeat (first | exact (Kd.R_reads' HO_512001.out).2.2 | (with_reducible refine Kd.C_alloc ?_ _) | (with_reducible refine Kd.C_drewN ?_ _) | (with_reducible refine Kd.C_drew ?_)))
    (case side2 => exact (Kd.R_reads' HO_512001.out).2.1)
    (case side3 => repeat (first | exact (Kd.R_reads' HO_512002.out).2.2 | (with_reducible refine Kd.C_alloc ?_ _) | (with_reducible refine Kd.C_drewN ?_ _) | (with_reducible refine Kd.C_drew ?_)))
    (case side4 => exact (Kd.R_reads' HO_512002.out).2.1)
    (case side5 => repeat (first | exact (Kd.R_reads' HO_512003.out).2.2 | (with_reducible refine Kd.C_alloc ?_ _) | (with_reducible refine Kd.C_drewN ?_ _) | (with_reducible refine Kd.C_drew ?_)))
    (case side6 => exact (Kd.R_reads' HO_512003.out).2.1)
    (case side7 => repeat (first | exact (Kd.R_reads' HO_512004.out).2.2 | (with_reducible refine Kd.C_alloc ?_ _) | (with_reducible refine Kd.C_drewN ?_ _) | (with_reducible refine Kd.C_drew ?_)))
    (case side8 => exact (Kd.R_reads' HO_512004.out).2.1)
    (case side9 => repeat (first | exact (Kd.R_reads' HO517.out).2.2 | (with_reducible refine Kd.C_alloc ?_ _) | (with_reducible refine Kd.C_drewN ?_ _) | (with_reducible refine Kd.C_drew ?_)))
    (case side10 => exact (Kd.R_reads' HO517.out).2.1)
    (case side11 => repeat (first | exact (Kd.R_reads' HO520.out).2.2 | (with_reducible refine Kd.C_alloc ?_ _) | (with_reducible refine Kd.C_drewN ?_ _) | (with_reducible refine Kd.C_drew ?_)))
    (case side12 => exact (Kd.R_reads' HO520.out).2.1)
    (case side13 => repeat (first | exact (Kd.R_reads' HO523.out).2.2 | (with_reducible refine Kd.C_alloc ?_ _) | (with_reducible refine Kd.C_drewN ?_ _) | (with_reducible refine Kd.C_drew ?_)))
    (case side14 => exact (Kd.R_reads' HO523.out).2.1)
    (case side15 => repeat (first | exact (Kd.R_reads' HO526.out).2.2 | (with_reducible refine Kd.C_alloc ?_ _) | (with_reducible refine Kd.C_drewN ?_ _) | (with_reducible refine Kd.C_drew ?_)))
    (case side16 => exact (Kd.R_reads' HO526.out).2.1)
    rintro e w42 ⟨rfl, hb⟩
    refine ⟨_, rfl, ?_⟩
    replace HO_512001 := q_ (Kd.R_below z62_ hb)
    replace HO_512002 := q_ (Kd.R_below z63_ hb)
    replace HO_512003 := q_ (Kd.R_below z75_ hb)
    replace HO_512004 := q_ (Kd.R_below z64_ hb)
    replace HO517 := q_ (Kd.R_below (by (with_reducible repeat (first | apply Kd.R_alloc | apply Kd.R_drewN | apply Kd.R_drew)); exact HO517.out) hb)
    replace HO520 := q_ (Kd.R_below (by (with_reducible repeat (first | apply Kd.R_alloc | apply Kd.R_drewN | apply Kd.R_drew)); exact HO520.out) hb)
    replace HO523 := q_ (Kd.R_below (by (with_reducible repeat (first | apply Kd.R_alloc | apply Kd.R_drewN | apply Kd.R_drew)); exact HO523.out) hb)
    replace HO526 := q_ (Kd.R_below (by (with_reducible repeat (first | apply Kd.R_alloc | apply Kd.R_drewN | apply Kd.R_drew)); exact HO526.out) hb)
    replace BK481 := rb_ BK481 hb
    replace BK511 := rb_ BK511 hb
    replace HB := hb_ hb
    (try clear hb)
    (try clear hb2)
    (try clear hk)
    (try clear hi)
    refine hK.out _ _ ⟨(blk_cell BK511.out 0).trans rfl, (blk_cell BK511.out 1).trans rfl, (blk_cell BK511.out 2).trans rfl, (blk_cell BK511.out 3).trans rfl, (blk_cell BK511.out 4).trans rfl, (blk_cell BK481.out 0).trans rfl, (blk_cell BK481.out 1).trans rfl, (blk_cell BK481.out 2).trans rfl, (blk_cell BK481.out 3).trans rfl, (blk_cell BK481.out 4).trans rfl⟩ (fun hHeld => ?_)
    clear hK K
    refine norm_ (a' := ?_) ?_ ?_
    rotate_left
    ·show Act.put _ (some 42) _ = _
     simp only [Act.put, List.setIfInBounds_toArray, List.set_cons_zero, List.set_cons_succ, i64_w, i32_w]
     rfl
    refine pure_ (i := 4) (N := some 43) (v := ?_) (a' := ?_) (tf 5 0) rfl rfl (by kernel_rfl) (fun _ _ _ h => h) (Or.inl ⟨by rfl, ?_⟩) ?_ ?_
    rotate_left
    ·intro w'
     go_simp
     with_reducible rfl
    rotate_left
    ·simp only [Act.put, List.setIfInBounds_toArray, List.set_cons_zero, List.set_cons_succ, i64_w, i32_w]
     rfl
    refine done_ (by kernel_rfl) ?_
    go_upto_if 43 with (fail)
    have H := HC35.out
    clear HC35
    replace H := kb_ H; rcases H with ⟨rfl, H⟩ | ⟨rfl, H⟩
    ·obtain rfl := si_ H
     go_wp2
     go_ret
     exact ⟨z1_, cb_⟩
    ·obtain rfl := si_ H
     go_wp2
     go_ret
     exact ⟨z1_, cb_⟩

end Go.Proofs.Ytfnndcpaldkkoaa.PFnExactTreeGet
