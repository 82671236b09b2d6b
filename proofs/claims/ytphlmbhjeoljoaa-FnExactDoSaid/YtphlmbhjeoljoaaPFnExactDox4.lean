-- Written by a program of this session, which goes by the kit's print. Not trusted: Lean checks it.
import Derived.Test.YtphlmbhjeoljoaaPFnExactDox0
import Derived.Test.YtphlmbhjeoljoaaPFnExactDox3
namespace Go.Proofs.Ytphlmbhjeoljoaa.PFnExactDo
open Go.RowKit Go.Proofs.YtphlmbhjeoljoaaW.PrintWords Go.Proofs.YtphlmbhjeoljoaaW.PrintLast Go.Proofs.YtphlmbhjeoljoaaW.PrintMore
attribute [local go_sem] max2_int min2_int max_two min_two max_three min_three max_four min_four   -- for this text's walks alone
set_option linter.unusedVariables false
set_option linter.unusedSimpArgs false

/-! ### impl_Disk_write: function 150 -/
def impl_Disk_write.f (l20_0 : List ByteArray) (l20_1 : List (S166)) (a1_0 : Int) (a1_1 : ByteArray) (a1_2 : Int) (a1_3 : Int) : Option (List ByteArray × (List (S166))) := (impl_within.f a1_0 0 (wrap64 ((l20_0.length : Int) - 1))).bind fun t186 => (if t186 = true then (if 0 ≤ a1_0 then (if a1_0 < (l20_0.length : Int) then (some ((l20_0.set (a1_0 : Int).toNat a1_1), l20_1)) else (none)) else (none)) else (if a1_0 = (-1) then (if (wrap64 ((-1) - a1_0)) < (l20_1.length : Int) then (if 0 ≤ (wrap64 ((-1) - a1_0)) then (some (l20_0, (l20_1.set ((wrap64 ((-1) - a1_0)) : Int).toNat (⟨a1_2, a1_3⟩ : S166)))) else (none)) else (some (l20_0, l20_1))) else (if a1_0 = (-2) then (if (wrap64 ((-1) - a1_0)) < (l20_1.length : Int) then (if 0 ≤ (wrap64 ((-1) - a1_0)) then (some (l20_0, (l20_1.set ((wrap64 ((-1) - a1_0)) : Int).toNat (⟨a1_2, a1_3⟩ : S166)))) else (none)) else (some (l20_0, l20_1))) else (some (l20_0, l20_1)))))
def impl_Disk_write.T2 : Bool × List (List Nat × List Nat) := (true, [([], []), ([0], [0]), ([], []), ([2], [2]), ([3], [3]), ([4], [4]), ([5], [5]), ([6], [6]), ([1, 7], [1, 7]), ([8, 8], [8])])
def impl_Disk_write.B2 : List Nat := [0, 1, 0, 4, 12, 28, 60, 124, 255, 511]
theorem impl_Disk_write.tab2 : rtab .any (opsOf Try.f150 2) = impl_Disk_write.T2 := by kernel_rfl
theorem impl_Disk_write.bits2 : waitsOk impl_Disk_write.T2.2 impl_Disk_write.B2 = true := by kernel_rfl
def impl_Disk_write.T3 : Bool × List (List Nat × List Nat) := (true, [([], []), ([0], [0]), ([1], [1]), ([2], [2]), ([], []), ([4], [4]), ([], []), ([6], [6]), ([3, 5, 0, 1, 2, 3, 4, 5, 6, 7], [3, 5]), ([8, 7, 0, 1, 2, 3, 4, 5, 6, 7], [7, 8])])
def impl_Disk_write.B3 : List Nat := [0, 1, 3, 7, 0, 16, 0, 64, 255, 511]
theorem impl_Disk_write.tab3 : rtab .any (opsOf Try.f150 3) = impl_Disk_write.T3 := by kernel_rfl
theorem impl_Disk_write.bits3 : waitsOk impl_Disk_write.T3.2 impl_Disk_write.B3 = true := by kernel_rfl
def impl_Disk_write.T5 : Bool × List (List Nat × List Nat) := (true, [([], []), ([0], [0]), ([1], [1]), ([2], [2]), ([], []), ([], []), ([5], [5]), ([3, 4, 0, 1, 2, 3, 4, 5, 6], [3, 4]), ([7, 6, 0, 1, 2, 3, 4, 5, 6], [6, 7])])
def impl_Disk_write.B5 : List Nat := [0, 1, 3, 7, 0, 0, 32, 127, 255]
theorem impl_Disk_write.tab5 : rtab .any (opsOf Try.f150 5) = impl_Disk_write.T5 := by kernel_rfl
theorem impl_Disk_write.bits5 : waitsOk impl_Disk_write.T5.2 impl_Disk_write.B5 = true := by kernel_rfl
set_option maxHeartbeats 8000000 in
set_option maxRecDepth 100000 in
theorem impl_Disk_write.calls (gc20 : Nat) (P20_0_ : Nat → Prop) (u9000_ : Value) (l20_0 : List ByteArray) (P20_1_ : Nat → Prop) (u9001_ : Value) (l20_1 : List (S166)) (a1_0 : Int) (a1_1 : ByteArray) (a1_2 : Int) (a1_3 : Int) (r1 : List ByteArray) (r2 : List (S166)) (w0 w : World) (hB : Below w0.heap.size w0 w) (ho20_0 : Kd.R Kd.string 9 w w0.heap.size P20_0_ u9000_ l20_0) (ho20_1 : Kd.R k166 166 w w0.heap.size P20_1_ u9001_ l20_1) (hb20 : w.heap[gc20]? = some (.cells #[u9000_, u9001_] 95 (0, 0))) (h : impl_Disk_write.f l20_0 l20_1 a1_0 a1_1 a1_2 a1_3 = some (r1, r2)) :
  Calls Try.prog 150 #[.pointer (some ⟨gc20, 0, none⟩), .agg #[.int .i64 a1_0, .string a1_1, .int .i64 a1_2, .int .i64 a1_3]] w fun e w' => e = .returned (.tuple #[]) ∧ Kd.R Kd.string 9 w' w0.heap.size (fun k_ => ((P20_0_ k_ ∨ P20_1_ k_) ∨ w.heap.size ≤ k_)) u9000_ r1 ∧ Kd.R k166 166 w' w0.heap.size (fun k_ => ((P20_0_ k_ ∨ P20_1_ k_) ∨ w.heap.size ≤ k_)) u9001_ r2 ∧ Below w0.heap.size w0 w' ∧ Kept w w' (fun k_ => P20_0_ k_ ∨ P20_1_ k_) := by
 have hu168 := Try.underlying168
 have hu166 := Try.underlying166
 have HO20_0 := q_ (show Kd.R Kd.string 9 w w0.heap.size (fun k_ => ((P20_0_ k_ ∨ P20_1_ k_) ∨ w.heap.size ≤ k_)) u9000_ l20_0 from Kd.R_mono ho20_0 (fun k_ hk => (.inl (.inl hk))))
 have HO20_1 := q_ (show Kd.R k166 166 w w0.heap.size (fun k_ => ((P20_0_ k_ ∨ P20_1_ k_) ∨ w.heap.size ≤ k_)) u9001_ l20_1 from Kd.R_mono ho20_1 (fun k_ hk => (.inl (.inr hk))))
 have BK20 := q_ hb20
 clear hb20
 have HK := q_ (Kept.refl w (fun k_ => P20_0_ k_ ∨ P20_1_ k_))
 have HW0 := q_ hB.size
 have HB := q_ hB
 clear hB
 have H : ((impl_within.f a1_0 0 (wrap64 ((l20_0.length : Int) - 1))).bind fun t186 => (if t186 = true then (if 0 ≤ a1_0 then (if a1_0 < (l20_0.length : Int) then (some ((l20_0.set (a1_0 : Int).toNat a1_1), l20_1)) else (none)) else (none)) else (if a1_0 = (-1) then (if (wrap64 ((-1) - a1_0)) < (l20_1.length : Int) then (if 0 ≤ (wrap64 ((-1) - a1_0)) then (some (l20_0, (l20_1.set ((wrap64 ((-1) - a1_0)) : Int).toNat (⟨a1_2, a1_3⟩ : S166)))) else (none)) else (some (l20_0, l20_1))) else (if a1_0 = (-2) then (if (wrap64 ((-1) - a1_0)) < (l20_1.length : Int) then (if 0 ≤ (wrap64 ((-1) - a1_0)) then (some (l20_0, (l20_1.set ((wrap64 ((-1) - a1_0)) : Int).toNat (⟨a1_2, a1_3⟩ : S166)))) else (none)) else (some (l20_0, l20_1))) else (some (l20_0, l20_1)))))) = some (r1, r2) := h
 clear h
 replace H := Option.bind_eq_some_iff.mp H
 obtain ⟨t186, A30, H⟩ := H
 replace H : (if t186 = true then (if 0 ≤ a1_0 then (if a1_0 < (l20_0.length : Int) then (some ((l20_0.set (a1_0 : Int).toNat a1_1), l20_1)) else (none)) else (none)) else (if a1_0 = (-1) then (if (wrap64 ((-1) - a1_0)) < (l20_1.length : Int) then (if 0 ≤ (wrap64 ((-1) - a1_0)) then (some (l20_0, (l20_1.set ((wrap64 ((-1) - a1_0)) : Int).toNat (⟨a1_2, a1_3⟩ : S166)))) else (none)) else (some (l20_0, l20_1))) else (if a1_0 = (-2) then (if (wrap64 ((-1) - a1_0)) < (l20_1.length : Int) then (if 0 ≤ (wrap64 ((-1) - a1_0)) then (some (l20_0, (l20_1.set ((wrap64 ((-1) - a1_0)) : Int).toNat (⟨a1_2, a1_3⟩ : S166)))) else (none)) else (some (l20_0, l20_1))) else (some (l20_0, l20_1))))) = some (r1, r2) := H
 have A3 := q_ A30
 clear A30
 by_cases c4 : t186 = true
 ·subst c4
  have H1 : (if 0 ≤ a1_0 then (if a1_0 < (l20_0.length : Int) then (some ((l20_0.set (a1_0 : Int).toNat a1_1), l20_1)) else (none)) else (none)) = some (r1, r2) := z110_
  clear H
  have H := H1
  clear H1
  by_cases c5 : 0 ≤ a1_0
  ·rw [if_pos c5] at H
   have c5b0 : decide (0 ≤ a1_0) = true := decide_eq_true c5
   clear c5
   by_cases c6 : a1_0 < (l20_0.length : Int)
   ·rw [if_pos c6] at H
    have c6b0 : decide (a1_0 < (l20_0.length : Int)) = true := decide_eq_true c6
    clear c6
    obtain ⟨y187, hy_⟩ : ∃ y_ : List ByteArray, y_ = (l20_0.set (a1_0 : Int).toNat a1_1) := ⟨_, rfl⟩
    replace H : (some (y187, l20_1)) = some (r1, r2) := z7_
    have Ny187 := q_ hy_
    clear hy_
    simp only [Option.some.injEq, Prod.mk.injEq] at H
    obtain ⟨rfl, rfl⟩ := H
    go_enter Try.func150, Try.ntmps150
    try go_wp2_with (first | ((with_reducible refine gate_dst (N := 3) rfl ?_); (try (refine gate_guard (by rfl) ?_; dsimp only)); refine box_event ?hg (N := 3) ?hd (cs := #[.int .i64 a1_0, .string a1_1, .int .i64 a1_2, .int .i64 a1_3]) (t := 168) ?hr ?_; (case hd => rfl); (case hg => rfl); (case hr => exact z200_); intro gb185 hg w8 hbox hb; replace HO20_0 := q_ (Kd.R_below z61_ hb); replace HO20_1 := q_ (Kd.R_below z62_ hb); have BK185 := q_ (hbox); have GW185 := q_ ((z198_ : w.heap.size ≤ gb185)); replace HK := q_ (Kept.below (S := (fun k_ => P20_0_ k_ ∨ P20_1_ k_)) z41_ hb); have GE185 := q_ ((z181_ : w0.heap.size ≤ gb185)); replace HB := q_ (below_step z45_ hb); have NB20_185 := q_ ((z148_ : gc20 ≠ gb185)); have NB185_20 := q_ ((z149_ : gb185 ≠ gc20)); replace BK20 := q_ (blk_below (g := gc20) (o := .cells #[u9000_, u9001_] 95 (0, 0)) z38_ hb); clear hb hbox hg; have hnb9 := NB185_20.out; have hnc9 := NB20_185.out; obtain ⟨hcz10_0, hcz10_1, hcz10_2, hcz10_3, hfz10_0, hfz10_1, hfz10_2, hfz10_3⟩ := cs4_ BK185.out))
    replace HO20_0 := q_ (Kd.R_drew HO20_0.out)
    replace HO20_1 := q_ (Kd.R_drew HO20_1.out)
    replace BK20 := q_ (blk_drew BK20.out)
    replace BK185 := q_ (blk_drew BK185.out)
    replace HK := q_ (Kept.drew HK.out)
    replace HB := q_ (below_drew1 HB.out)
    obtain ⟨Ao12, co12, eo12⟩ := Kd.R_slice HO20_0.out
    (first | subst eo12 | (injection eo12 with f1_ f2_ f3_; have f4_ := f1_.symm; have f5_ := f3_.symm; clear f1_ f2_ f3_; subst f4_; subst f5_))
    refine start_ (n := 10) (S := fun w' => w'.cell? ⟨gb185, 0, none⟩ = some (.int .i64 a1_0) ∧ w'.cell? ⟨gb185, 1, none⟩ = some (.string a1_1) ∧ w'.cell? ⟨gb185, 2, none⟩ = some (.int .i64 a1_2) ∧ w'.cell? ⟨gb185, 3, none⟩ = some (.int .i64 a1_3) ∧ w'.cell? ⟨gc20, 0, none⟩ = some (.slice Ao12 l20_0.length co12) ∧ w'.cell? ⟨gc20, 1, none⟩ = some (u9001_)) (ds := []) (tf 0 10) (by kernel_rfl) rfl rfl ⟨(blk_cell BK185.out 0).trans rfl, (blk_cell BK185.out 1).trans rfl, (blk_cell BK185.out 2).trans rfl, (blk_cell BK185.out 3).trans rfl, (blk_cell BK20.out 0).trans rfl, (blk_cell BK20.out 1).trans rfl⟩ (fun hHeld => ?_); refine with_tabW impl_Disk_write.tab2 impl_Disk_write.bits2 (fun HT_ HW_ => ?_)
    generalize w8.drew = w11 at HO20_0 HO20_1 BK20 BK185 HK HB hHeld ⊢
    refine p1_ 0 (some 9) (tf 1 9) HT_.out ?_
    refine p1_ 2 (some 11) #[true, false, true, false, false, false, false, false, false, false] HT_.out ?_
    refine p1_ 3 (some 12) #[true, false, true, true, false, false, false, false, false, false] HT_.out ?_
    refine p1_ 4 (some 13) #[true, false, true, true, true, false, false, false, false, false] HT_.out ?_
    refine take_ (i := 1) (N := some 10) (v := ?_) (a' := ?_) (tf 5 5) rfl rfl (take_ofW HT_.out HW_.out (by kernel_rfl)) (fun _ _ _ h => h) (Or.inl ⟨by rfl, ?_⟩) hHeld ?_ ?_
    rotate_left
    ·rintro w' ⟨s0, s1, s2, s3, s4, s5⟩
     go_simp
     with_reducible rfl
    rotate_left
    ·simp only [Act.put, List.setIfInBounds_toArray, List.set_cons_zero, List.set_cons_succ, i64_w, i32_w]
     rfl
    refine take_ (i := 5) (N := some 14) (v := ?_) (a' := ?_) (tf 6 4) rfl rfl (take_ofW HT_.out HW_.out (by kernel_rfl)) (fun _ _ _ h => h) (Or.inl ⟨by rfl, ?_⟩) hHeld ?_ ?_
    rotate_left
    ·rintro w' ⟨s0, s1, s2, s3, s4, s5⟩
     go_simp
     with_reducible rfl
    rotate_left
    ·simp only [Act.put, List.setIfInBounds_toArray, List.set_cons_zero, List.set_cons_succ, i64_w, i32_w]
     rfl
    refine p1_ 6 (some 15) (tf 7 3) HT_.out ?_
    refine p1_ 7 (some 16) (tf 8 2) HT_.out ?_
    refine one_ (i := 8) (N := some 17) (tf 9 1) rfl rfl (one_of HT_.out (by kernel_rfl)) (by decide) (fun K hK => ?_)
    refine goes_ Try.func176 (by kernel_rfl) rfl #[.int .i64 a1_0, .int .i64 0, .int .i64 (wrap64 ((l20_0.length : Int) - 1))] (by rfl) rfl rfl z1_ ?_
    with_reducible refine (impl_within.calls a1_0 0 (wrap64 ((l20_0.length : Int) - 1)) true _ A3.out).mono ?_
    rintro e w' ⟨rfl, ⟨nd, rfl⟩⟩
    refine ⟨_, rfl, ?_⟩
    refine hK.out _ _ ⟨(blk_cell BK185.out 0).trans rfl, (blk_cell BK185.out 1).trans rfl, (blk_cell BK185.out 2).trans rfl, (blk_cell BK185.out 3).trans rfl, (blk_cell BK20.out 0).trans rfl, (blk_cell BK20.out 1).trans rfl⟩ (fun hHeld => ?_)
    clear hK K
    refine norm_ (a' := ?_) ?_ ?_
    rotate_left
    ·show Act.put _ (some 17) _ = _
     simp only [Act.put, List.setIfInBounds_toArray, List.set_cons_zero, List.set_cons_succ, i64_w, i32_w]
     rfl
    refine p1_ 9 (some 8) (tf 10 0) HT_.out ?_
    refine done_ (done_of HT_.out (by kernel_rfl)) ?_
    try go_wp2
    (try (rw [drewN_self w11]; generalize hq_ : World.drewN w11 _ = w11; have n0_ : Aside0 (Kd.R Kd.string 9 w11 w0.heap.size (fun k_ => ((P20_0_ k_ ∨ P20_1_ k_) ∨ w.heap.size ≤ k_)) (.slice Ao12 l20_0.length co12) l20_0) := ⟨by rw [← hq_]; exact z61_⟩; have n1_ : Aside0 (Kd.R k166 166 w11 w0.heap.size (fun k_ => ((P20_0_ k_ ∨ P20_1_ k_) ∨ w.heap.size ≤ k_)) u9001_ l20_1) := ⟨by rw [← hq_]; exact z62_⟩; have n2_ : Aside0 (w11.heap[gb185]? = some (.cells #[.int .i64 a1_0, .string a1_1, .int .i64 a1_2, .int .i64 a1_3] 168 (0, 0))) := ⟨by rw [← hq_]; exact z114_⟩; have n3_ : Aside0 (w11.heap[gc20]? = some (.cells #[.slice Ao12 l20_0.length co12, u9001_] 95 (0, 0))) := ⟨by rw [← hq_]; exact z38_⟩; have n4_ : Aside0 (Kept w w11 (fun k_ => P20_0_ k_ ∨ P20_1_ k_)) := ⟨by rw [← hq_]; exact z63_⟩; have n5_ : Aside0 (Below w0.heap.size w0 w11) := ⟨by rw [← hq_]; exact z65_⟩; clear HO20_0 HO20_1 BK185 BK20 HK HB hq_; have HO20_0 := n0_; have HO20_1 := n1_; have BK185 := n2_; have BK20 := n3_; have HK := n4_; have HB := n5_; clear n0_ n1_ n2_ n3_ n4_ n5_)); obtain ⟨hcq185_0, hcq185_1, hcq185_2, hcq185_3, hfq185_0, hfq185_1, hfq185_2, hfq185_3⟩ := cs4_ BK185.out
    replace HO20_0 := q_ (Kd.R_drew HO20_0.out)
    replace HO20_1 := q_ (Kd.R_drew HO20_1.out)
    replace BK20 := q_ (blk_drew BK20.out)
    replace BK185 := q_ (blk_drew BK185.out)
    replace HK := q_ (Kept.drew HK.out)
    replace HB := q_ (below_drew1 HB.out)
    have p7 : 0 ≤ (a1_0 : Int) := of_decide_eq_true z2_
    have q7 : (a1_0 : Int) < ((l20_0.length : Int) : Int) := of_decide_eq_true z2_
    obtain ⟨go7, co7, eo7, gb7, gl7, cl7, HG7⟩ := Kd.R_form HO20_0.out (by omega)
    (first | cases eo7 | (injection eo7 with ea_ en_ ec_; (first | subst ea_ | (injection ea_ with ea_; subst ea_)); subst ec_; clear en_))
    have GB7 := q_ gb7
    have GG7 := q_ HG7
    clear gb7 gl7 HG7
    have HMgo7 := q_ (show ((P20_0_ go7 ∨ P20_1_ go7) ∨ w.heap.size ≤ go7) from (HO20_0.out.1 _ rfl))
    obtain ⟨hx7_0, hf7_0⟩ := Kd.R_celln (⟨#[]⟩ : ByteArray) HO20_0.out (a1_0 : Int) p7 q7
    replace p7 := eq_true p7
    replace q7 := eq_true q7
    have HP14 := Kd.R_putn HO20_0.out (a1_0 : Int) a1_1
    rw [← Ny187.out] at HP14
    have HQ14 := q_ HP14
    clear HP14
    refine start_ (n := 10) (S := fun w' => w'.cell? ⟨gc20, 0, none⟩ = some (.slice (some ⟨go7, 0, none⟩) l20_0.length co12) ∧ w'.cell? ⟨gc20, 1, none⟩ = some (u9001_) ∧ w'.cell? ⟨gb185, 0, none⟩ = some (.int .i64 a1_0) ∧ w'.cell? ⟨gb185, 1, none⟩ = some (.string a1_1) ∧ w'.cell? ⟨gb185, 2, none⟩ = some (.int .i64 a1_2) ∧ w'.cell? ⟨gb185, 3, none⟩ = some (.int .i64 a1_3)) (ds := [9]) (tf 0 10) (by kernel_rfl) rfl rfl ⟨(blk_cell BK20.out 0).trans rfl, (blk_cell BK20.out 1).trans rfl, (blk_cell BK185.out 0).trans rfl, (blk_cell BK185.out 1).trans rfl, (blk_cell BK185.out 2).trans rfl, (blk_cell BK185.out 3).trans rfl⟩ (fun hHeld => ?_); refine with_tabW impl_Disk_write.tab3 impl_Disk_write.bits3 (fun HT_ HW_ => ?_)
    generalize w11.drew = w13 at HO20_0 HO20_1 BK20 BK185 HK HB GG7 HQ14 hf7_0 hx7_0 hHeld ⊢
    refine p1_ 0 (some 18) (tf 1 9) HT_.out ?_
    refine p1_ 1 (some 19) (tf 2 8) HT_.out ?_
    refine p1_ 2 (some 20) (tf 3 7) HT_.out ?_
    refine p1_ 4 (some 22) #[true, true, true, false, true, false, false, false, false, false] HT_.out ?_
    refine p1_ 6 (some 24) #[true, true, true, false, true, false, true, false, false, false] HT_.out ?_
    refine take_ (i := 3) (N := some 21) (v := ?_) (a' := ?_) #[true, true, true, true, true, false, true, false, false, false] rfl rfl (take_ofW HT_.out HW_.out (by kernel_rfl)) (fun _ _ _ h => h) (Or.inl ⟨by rfl, ?_⟩) hHeld ?_ ?_
    rotate_left
    ·rintro w' ⟨s0, s1, s2, s3, s4, s5⟩
     go_simp
     with_reducible rfl
    rotate_left
    ·simp only [Act.put, List.setIfInBounds_toArray, List.set_cons_zero, List.set_cons_succ, i64_w, i32_w]
     rfl
    refine take_ (i := 5) (N := some 23) (v := ?_) (a' := ?_) (tf 7 3) rfl rfl (take_ofW HT_.out HW_.out (by kernel_rfl)) (fun _ _ _ h => h) (Or.inl ⟨by rfl, ?_⟩) hHeld ?_ ?_
    rotate_left
    ·rintro w' ⟨s0, s1, s2, s3, s4, s5⟩
     go_simp
     with_reducible rfl
    rotate_left
    ·simp only [Act.put, List.setIfInBounds_toArray, List.set_cons_zero, List.set_cons_succ, i64_w, i32_w]
     rfl
    refine take_ (i := 7) (N := some 25) (v := ?_) (a' := ?_) (tf 8 2) rfl rfl (take_ofW HT_.out HW_.out (by kernel_rfl)) (fun _ _ _ h => h) (Or.inl ⟨by rfl, ?_⟩) hHeld ?_ ?_
    rotate_left
    ·rintro w' ⟨s0, s1, s2, s3, s4, s5⟩
     go_simp
     with_reducible rfl
    rotate_left
    ·simp only [Act.put, List.setIfInBounds_toArray, List.set_cons_zero, List.set_cons_succ, i64_w, i32_w]
     rfl
    refine p1_ 8 (some 26) (tf 9 1) HT_.out ?_
    refine last_ (i := 9) (N := none) (tf 10 0) rfl rfl (one_of HT_.out (by kernel_rfl)) (by decide) (fun K hK => ?_)
    refine skip_ (w1 := ?_) (by rfl) rfl ?_ ?_
    rotate_left
    ·go_simp
     rfl
    refine hK.out _ _ ?_
    clear hK K
    refine done_ (done_of HT_.out (by kernel_rfl)) ?_
    try go_wp2
    first | go_end0 | ((try simp only [Exit.inBlock, Exit.then]); refine bodyPost_ret (results_none rfl _ _ _) rfl ?_)
    exact ⟨z16_, by (with_reducible repeat (first | apply Kd.R_alloc | apply Kd.R_drewN | apply Kd.R_drew)); exact HQ14.out, by (with_reducible repeat (first | apply Kd.R_alloc | apply Kd.R_drewN | apply Kd.R_drew)); exact Kd.R_mono (Kd.R_far (p := ⟨go7, (a1_0 : Int).toNat, none⟩) (Kd.R_types HO20_1.out GG7.out (by decide)) (fun _ hk => hk.2) (.string a1_1)) (fun _ hk => hk.1), by repeat (first | (with_reducible first | exact HB.out | apply below_alloc | apply pw_below_drewN | apply below_drew1 | refine below_set ?_ GB7.out | refine below_set ?_ GE20.out | refine below_set ?_ GE185.out) | exact HB.out), by repeat (first | (with_reducible first | exact HK.out | apply Kept.alloc | apply Kept.drewN | apply Kept.drew | refine Kept.setCell ?_ HMgo7.out _ | refine Kept.setCell ?_ (.inr GW20.out) _ | refine Kept.setCell ?_ (.inr GW185.out) _) | exact HK.out)⟩
   ·rw [if_neg c6] at H
    exact absurd H (by simp)
  ·rw [if_neg c5] at H
   exact absurd H (by simp)
 ·replace c4 := Bool.eq_false_iff.mpr c4
  subst c4
  have H1 : (if a1_0 = (-1) then (if (wrap64 ((-1) - a1_0)) < (l20_1.length : Int) then (if 0 ≤ (wrap64 ((-1) - a1_0)) then (some (l20_0, (l20_1.set ((wrap64 ((-1) - a1_0)) : Int).toNat (⟨a1_2, a1_3⟩ : S166)))) else (none)) else (some (l20_0, l20_1))) else (if a1_0 = (-2) then (if (wrap64 ((-1) - a1_0)) < (l20_1.length : Int) then (if 0 ≤ (wrap64 ((-1) - a1_0)) then (some (l20_0, (l20_1.set ((wrap64 ((-1) - a1_0)) : Int).toNat (⟨a1_2, a1_3⟩ : S166)))) else (none)) else (some (l20_0, l20_1))) else (some (l20_0, l20_1)))) = some (r1, r2) := by rw [if_neg (show ¬ (false = true) by decide)] at H; exact H
  clear H
  have H := H1
  clear H1
  by_cases c15 : a1_0 = (-1)
  ·rw [if_pos c15] at H
   have c15b0 : (a1_0 == (-1)) = true := beq_iff_eq.mpr c15
   have c15b1 : (a1_0 != (-1)) = false := bne_eq_false_iff_eq.mpr c15
   clear c15
   by_cases c16 : (wrap64 ((-1) - a1_0)) < (l20_1.length : Int)
   ·rw [if_pos c16] at H
    have c16b0 : decide ((wrap64 ((-1) - a1_0)) < (l20_1.length : Int)) = true := decide_eq_true c16
    clear c16
    obtain ⟨ji17, hji17⟩ : ∃ j_ : Int, (wrap64 ((-1) - a1_0)) = j_ := ⟨_, rfl⟩
    replace H : (if 0 ≤ (ji17) then (some (l20_0, (l20_1.set ((ji17) : Int).toNat (⟨a1_2, a1_3⟩ : S166)))) else (none)) = some (r1, r2) := by first | (rw [hji17] at H; exact H) | (simp only [hji17] at H ⊢; exact H)
    (try rw [hji17] at c16b0)
    (try rw [hji17] at A3)
    have hji17w : (IntKind.i64.wrap ((-1) - a1_0)) = ji17 := (i64_w _).trans hji17
    by_cases c18 : 0 ≤ (ji17)
    ·rw [if_pos c18] at H
     have c18b0 : decide (0 ≤ (ji17)) = true := decide_eq_true c18
     clear c18
     obtain ⟨y188, hy_⟩ : ∃ y_ : List (S166), y_ = (l20_1.set ((ji17) : Int).toNat (⟨a1_2, a1_3⟩ : S166)) := ⟨_, rfl⟩
     replace H : (some (l20_0, y188)) = some (r1, r2) := z7_
     have Ny188 := q_ hy_
     clear hy_
     simp only [Option.some.injEq, Prod.mk.injEq] at H
     obtain ⟨rfl, rfl⟩ := H
     go_enter Try.func150, Try.ntmps150
     try go_wp2_with (first | ((with_reducible refine gate_dst (N := 3) rfl ?_); (try (refine gate_guard (by rfl) ?_; dsimp only)); refine box_event ?hg (N := 3) ?hd (cs := #[.int .i64 a1_0, .string a1_1, .int .i64 a1_2, .int .i64 a1_3]) (t := 168) ?hr ?_; (case hd => rfl); (case hg => rfl); (case hr => exact z200_); intro gb185 hg w20 hbox hb; replace HO20_0 := q_ (Kd.R_below z61_ hb); replace HO20_1 := q_ (Kd.R_below z62_ hb); have BK185 := q_ (hbox); have GW185 := q_ ((z198_ : w.heap.size ≤ gb185)); replace HK := q_ (Kept.below (S := (fun k_ => P20_0_ k_ ∨ P20_1_ k_)) z41_ hb); have GE185 := q_ ((z181_ : w0.heap.size ≤ gb185)); replace HB := q_ (below_step z45_ hb); have NB20_185 := q_ ((z148_ : gc20 ≠ gb185)); have NB185_20 := q_ ((z149_ : gb185 ≠ gc20)); replace BK20 := q_ (blk_below (g := gc20) (o := .cells #[u9000_, u9001_] 95 (0, 0)) z38_ hb); clear hb hbox hg; have hnb21 := NB185_20.out; have hnc21 := NB20_185.out; obtain ⟨hcz22_0, hcz22_1, hcz22_2, hcz22_3, hfz22_0, hfz22_1, hfz22_2, hfz22_3⟩ := cs4_ BK185.out))
     replace HO20_0 := q_ (Kd.R_drew HO20_0.out)
     replace HO20_1 := q_ (Kd.R_drew HO20_1.out)
     replace BK20 := q_ (blk_drew BK20.out)
     replace BK185 := q_ (blk_drew BK185.out)
     replace HK := q_ (Kept.drew HK.out)
     replace HB := q_ (below_drew1 HB.out)
     obtain ⟨Ao24, co24, eo24⟩ := Kd.R_slice HO20_0.out
     (first | subst eo24 | (injection eo24 with f1_ f2_ f3_; have f4_ := f1_.symm; have f5_ := f3_.symm; clear f1_ f2_ f3_; subst f4_; subst f5_))
     refine start_ (n := 10) (S := fun w' => w'.cell? ⟨gb185, 0, none⟩ = some (.int .i64 a1_0) ∧ w'.cell? ⟨gb185, 1, none⟩ = some (.string a1_1) ∧ w'.cell? ⟨gb185, 2, none⟩ = some (.int .i64 a1_2) ∧ w'.cell? ⟨gb185, 3, none⟩ = some (.int .i64 a1_3) ∧ w'.cell? ⟨gc20, 0, none⟩ = some (.slice Ao24 l20_0.length co24) ∧ w'.cell? ⟨gc20, 1, none⟩ = some (u9001_)) (ds := []) (tf 0 10) (by kernel_rfl) rfl rfl ⟨(blk_cell BK185.out 0).trans rfl, (blk_cell BK185.out 1).trans rfl, (blk_cell BK185.out 2).trans rfl, (blk_cell BK185.out 3).trans rfl, (blk_cell BK20.out 0).trans rfl, (blk_cell BK20.out 1).trans rfl⟩ (fun hHeld => ?_); refine with_tabW impl_Disk_write.tab2 impl_Disk_write.bits2 (fun HT_ HW_ => ?_)
     generalize w20.drew = w23 at HO20_0 HO20_1 BK20 BK185 HK HB hHeld ⊢
     refine p1_ 0 (some 9) (tf 1 9) HT_.out ?_
     refine p1_ 2 (some 11) #[true, false, true, false, false, false, false, false, false, false] HT_.out ?_
     refine p1_ 3 (some 12) #[true, false, true, true, false, false, false, false, false, false] HT_.out ?_
     refine p1_ 4 (some 13) #[true, false, true, true, true, false, false, false, false, false] HT_.out ?_
     refine take_ (i := 1) (N := some 10) (v := ?_) (a' := ?_) (tf 5 5) rfl rfl (take_ofW HT_.out HW_.out (by kernel_rfl)) (fun _ _ _ h => h) (Or.inl ⟨by rfl, ?_⟩) hHeld ?_ ?_
     rotate_left
     ·rintro w' ⟨s0, s1, s2, s3, s4, s5⟩
      go_simp
      with_reducible rfl
     rotate_left
     ·simp only [Act.put, List.setIfInBounds_toArray, List.set_cons_zero, List.set_cons_succ, i64_w, i32_w]
      rfl
     refine take_ (i := 5) (N := some 14) (v := ?_) (a' := ?_) (tf 6 4) rfl rfl (take_ofW HT_.out HW_.out (by kernel_rfl)) (fun _ _ _ h => h) (Or.inl ⟨by rfl, ?_⟩) hHeld ?_ ?_
     rotate_left
     ·rintro w' ⟨s0, s1, s2, s3, s4, s5⟩
      go_simp
      with_reducible rfl
     rotate_left
     ·simp only [Act.put, List.setIfInBounds_toArray, List.set_cons_zero, List.set_cons_succ, i64_w, i32_w]
      rfl
     refine p1_ 6 (some 15) (tf 7 3) HT_.out ?_
     refine p1_ 7 (some 16) (tf 8 2) HT_.out ?_
     refine one_ (i := 8) (N := some 17) (tf 9 1) rfl rfl (one_of HT_.out (by kernel_rfl)) (by decide) (fun K hK => ?_)
     refine goes_ Try.func176 (by kernel_rfl) rfl #[.int .i64 a1_0, .int .i64 0, .int .i64 (wrap64 ((l20_0.length : Int) - 1))] (by rfl) rfl rfl z1_ ?_
     with_reducible refine (impl_within.calls a1_0 0 (wrap64 ((l20_0.length : Int) - 1)) false _ A3.out).mono ?_
     rintro e w' ⟨rfl, ⟨nd, rfl⟩⟩
     refine ⟨_, rfl, ?_⟩
     refine hK.out _ _ ⟨(blk_cell BK185.out 0).trans rfl, (blk_cell BK185.out 1).trans rfl, (blk_cell BK185.out 2).trans rfl, (blk_cell BK185.out 3).trans rfl, (blk_cell BK20.out 0).trans rfl, (blk_cell BK20.out 1).trans rfl⟩ (fun hHeld => ?_)
     clear hK K
     refine norm_ (a' := ?_) ?_ ?_
     rotate_left
     ·show Act.put _ (some 17) _ = _
      simp only [Act.put, List.setIfInBounds_toArray, List.set_cons_zero, List.set_cons_succ, i64_w, i32_w]
      rfl
     refine p1_ 9 (some 8) (tf 10 0) HT_.out ?_
     refine done_ (done_of HT_.out (by kernel_rfl)) ?_
     obtain ⟨hcz25_0, hcz25_1, hcz25_2, hcz25_3, hfz25_0, hfz25_1, hfz25_2, hfz25_3⟩ := cs4_ BK185.out
     obtain ⟨hcz26_0, hcz26_1, hfz26_0, hfz26_1⟩ := cs2_ BK20.out
     obtain ⟨Ao27, co27, eo27⟩ := Kd.R_slice HO20_1.out
     subst eo27
     try go_wp2
     (try (rw [drewN_self w23]; generalize hq_ : World.drewN w23 _ = w23; have n0_ : Aside0 (Kd.R Kd.string 9 w23 w0.heap.size (fun k_ => ((P20_0_ k_ ∨ P20_1_ k_) ∨ w.heap.size ≤ k_)) (.slice Ao24 l20_0.length co24) l20_0) := ⟨by rw [← hq_]; exact z61_⟩; have n1_ : Aside0 (Kd.R k166 166 w23 w0.heap.size (fun k_ => ((P20_0_ k_ ∨ P20_1_ k_) ∨ w.heap.size ≤ k_)) (.slice Ao27 l20_1.length co27) l20_1) := ⟨by rw [← hq_]; exact z62_⟩; have n2_ : Aside0 (w23.heap[gb185]? = some (.cells #[.int .i64 a1_0, .string a1_1, .int .i64 a1_2, .int .i64 a1_3] 168 (0, 0))) := ⟨by rw [← hq_]; exact z114_⟩; have n3_ : Aside0 (w23.heap[gc20]? = some (.cells #[.slice Ao24 l20_0.length co24, .slice Ao27 l20_1.length co27] 95 (0, 0))) := ⟨by rw [← hq_]; exact z38_⟩; have n4_ : Aside0 (Kept w w23 (fun k_ => P20_0_ k_ ∨ P20_1_ k_)) := ⟨by rw [← hq_]; exact z63_⟩; have n5_ : Aside0 (Below w0.heap.size w0 w23) := ⟨by rw [← hq_]; exact z65_⟩; clear HO20_0 HO20_1 BK185 BK20 HK HB hq_; have HO20_0 := n0_; have HO20_1 := n1_; have BK185 := n2_; have BK20 := n3_; have HK := n4_; have HB := n5_; clear n0_ n1_ n2_ n3_ n4_ n5_)); obtain ⟨hcq185_0, hcq185_1, hcq185_2, hcq185_3, hfq185_0, hfq185_1, hfq185_2, hfq185_3⟩ := cs4_ BK185.out
     replace HO20_0 := q_ (Kd.R_drew HO20_0.out)
     replace HO20_1 := q_ (Kd.R_drew HO20_1.out)
     replace BK20 := q_ (blk_drew BK20.out)
     replace BK185 := q_ (blk_drew BK185.out)
     replace HK := q_ (Kept.drew HK.out)
     replace HB := q_ (below_drew1 HB.out)
     have p19 : 0 ≤ ((ji17) : Int) := of_decide_eq_true z2_
     have q19 : ((ji17) : Int) < ((l20_1.length : Int) : Int) := of_decide_eq_true z2_
     obtain ⟨go19, co19, eo19, gb19, gl19, cl19, HG19⟩ := Kd.R_form HO20_1.out (by omega)
     (first | cases eo19 | (injection eo19 with ea_ en_ ec_; (first | subst ea_ | (injection ea_ with ea_; subst ea_)); subst ec_; clear en_))
     have GB19 := q_ gb19
     have GG19 := q_ HG19
     clear gb19 gl19 HG19
     have HMgo19 := q_ (show ((P20_0_ go19 ∨ P20_1_ go19) ∨ w.heap.size ≤ go19) from (HO20_1.out.1 _ rfl))
     obtain ⟨ce19, hcl19, hM19, hcc19, hfr19⟩ := Kd.R_elem HO20_1.out z166 ((ji17) : Int) p19 q19
     obtain rfl := k166_openM hM19
     have hx19_0 : World.cell? _ ⟨go19, ((ji17) : Int).toNat * 2, none⟩ = some (.int .i64 ((rd_T166 l20_1 (ji17)).f0)) := hcc19 0 _ rfl
     have hx19_1 : World.cell? _ ⟨go19, ((ji17) : Int).toNat * 2 + 1, none⟩ = some (.int .i64 ((rd_T166 l20_1 (ji17)).f1)) := hcc19 1 _ rfl
     have hf19_0 : World.frozen? _ ⟨go19, ((ji17) : Int).toNat * 2, none⟩ = false := hfr19 0
     have hf19_1 : World.frozen? _ ⟨go19, ((ji17) : Int).toNat * 2 + 1, none⟩ = false := hfr19 1
     clear hcl19 hcc19 hfr19 hM19
     replace p19 := eq_true p19
     replace q19 := eq_true q19
     obtain ⟨ce29, hcl29, hM29, hcc29, hfr29⟩ := Kd.R_elem HO20_1.out z166 ((ji17) : Int) (of_decide_eq_true z2_) z163_
     obtain rfl := k166_openM hM29
     have HP29 := (Kd.R_seg HO20_1.out ((ji17) : Int) (of_decide_eq_true z2_) z163_ (seg := [.int .i64 a1_2, .int .i64 a1_3]) (j := 0) hcl29 hcc29 (show 2 ≤ 2 from by decide) (x' := (⟨a1_2, a1_3⟩ : S166)) (k166_mkM _ _ _ (⟨a1_2, a1_3⟩ : S166) ) (fun _ hk => hk)).1
     rw [← Ny188.out] at HP29
     have HQ29 := q_ HP29
     clear hcl29 hcc29 hfr29 hM29 HP29
     refine start_ (n := 9) (S := fun w' => w'.cell? ⟨gc20, 0, none⟩ = some (.slice Ao24 l20_0.length co24) ∧ w'.cell? ⟨gc20, 1, none⟩ = some (.slice (some ⟨go19, 0, none⟩) l20_1.length co27) ∧ w'.cell? ⟨gb185, 0, none⟩ = some (.int .i64 a1_0) ∧ w'.cell? ⟨gb185, 1, none⟩ = some (.string a1_1) ∧ w'.cell? ⟨gb185, 2, none⟩ = some (.int .i64 a1_2) ∧ w'.cell? ⟨gb185, 3, none⟩ = some (.int .i64 a1_3)) (ds := [8]) (tf 0 9) (by kernel_rfl) rfl rfl ⟨(blk_cell BK20.out 0).trans rfl, (blk_cell BK20.out 1).trans rfl, (blk_cell BK185.out 0).trans rfl, (blk_cell BK185.out 1).trans rfl, (blk_cell BK185.out 2).trans rfl, (blk_cell BK185.out 3).trans rfl⟩ (fun hHeld => ?_); refine with_tabW impl_Disk_write.tab5 impl_Disk_write.bits5 (fun HT_ HW_ => ?_)
     generalize w23.drew = w28 at HO20_0 HO20_1 BK20 BK185 HK HB GG19 HQ29 hf19_0 hf19_1 hx19_0 hx19_1 hHeld ⊢
     refine p1_ 0 (some 45) (tf 1 8) HT_.out ?_
     refine p1_ 1 (some 46) (tf 2 7) HT_.out ?_
     refine p1_ 2 (some 47) (tf 3 6) HT_.out ?_
     refine p1_ 4 (some 49) #[true, true, true, false, true, false, false, false, false] HT_.out ?_
     refine p1_ 5 (some 50) #[true, true, true, false, true, true, false, false, false] HT_.out ?_
     refine take_ (i := 3) (N := some 48) (v := ?_) (a' := ?_) (tf 6 3) rfl rfl (take_ofW HT_.out HW_.out (by kernel_rfl)) (fun _ _ _ h => h) (Or.inl ⟨by rfl, ?_⟩) hHeld ?_ ?_
     rotate_left
     ·rintro w' ⟨s0, s1, s2, s3, s4, s5⟩
      go_simp
      with_reducible rfl
     rotate_left
     ·simp only [Act.put, List.setIfInBounds_toArray, List.set_cons_zero, List.set_cons_succ, i64_w, i32_w]
      rfl
     refine take_ (i := 6) (N := some 51) (v := ?_) (a' := ?_) (tf 7 2) rfl rfl (take_ofW HT_.out HW_.out (by kernel_rfl)) (fun _ _ _ h => h) (Or.inl ⟨by rfl, ?_⟩) hHeld ?_ ?_
     rotate_left
     ·rintro w' ⟨s0, s1, s2, s3, s4, s5⟩
      go_simp
      with_reducible rfl
     rotate_left
     ·simp only [Act.put, List.setIfInBounds_toArray, List.set_cons_zero, List.set_cons_succ, i64_w, i32_w]
      rfl
     refine p1_ 7 (some 52) (tf 8 1) HT_.out ?_
     refine last_ (i := 8) (N := none) (tf 9 0) rfl rfl (one_of HT_.out (by kernel_rfl)) (by decide) (fun K hK => ?_)
     refine skip_ (w1 := ?_) (by rfl) rfl ?_ ?_
     rotate_left
     ·go_simp
      rfl
     refine hK.out _ _ ?_
     clear hK K
     refine done_ (done_of HT_.out (by kernel_rfl)) ?_
     try go_wp2
     first | go_end0 | ((try simp only [Exit.inBlock, Exit.then]); refine bodyPost_ret (results_none rfl _ _ _) rfl ?_)
     exact ⟨by first | rfl | (simp [errW_none, errW_some] <;> rfl) | (simp only [← hji17]; first | rfl | (simp [errW_none, errW_some] <;> rfl)) | (simp [*, errW_none, errW_some] <;> rfl), by (with_reducible repeat (first | apply Kd.R_alloc | apply Kd.R_drewN | apply Kd.R_drew)); exact Kd.R_mono (Kd.R_far (p := ⟨go19, ((ji17) : Int).toNat * 2 + 1, none⟩) (Kd.R_far (p := ⟨go19, ((ji17) : Int).toNat * 2, none⟩) (Kd.R_types HO20_0.out GG19.out (by decide)) (fun _ hk => hk.2) (.int .i64 a1_2)) (fun _ hk => hk.2) (.int .i64 a1_3)) (fun _ hk => hk.1), by (with_reducible repeat (first | apply Kd.R_alloc | apply Kd.R_drewN | apply Kd.R_drew)); exact HQ29.out, by repeat (first | (with_reducible first | exact HB.out | apply below_alloc | apply pw_below_drewN | apply below_drew1 | refine below_set ?_ GB19.out | refine below_set ?_ GB19.out | refine below_set ?_ GE20.out | refine below_set ?_ GE185.out) | exact HB.out), by repeat (first | (with_reducible first | exact HK.out | apply Kept.alloc | apply Kept.drewN | apply Kept.drew | refine Kept.setCell ?_ HMgo19.out _ | refine Kept.setCell ?_ HMgo19.out _ | refine Kept.setCell ?_ (.inr GW20.out) _ | refine Kept.setCell ?_ (.inr GW185.out) _) | exact HK.out)⟩
    ·rw [if_neg c18] at H
     exact absurd H (by simp)
   ·rw [if_neg c16] at H
    have c16b0 : decide ((wrap64 ((-1) - a1_0)) < (l20_1.length : Int)) = false := decide_eq_false c16
    clear c16
    simp only [Option.some.injEq, Prod.mk.injEq] at H
    obtain ⟨rfl, rfl⟩ := H
    go_enter Try.func150, Try.ntmps150
    try go_wp2_with (first | ((with_reducible refine gate_dst (N := 3) rfl ?_); (try (refine gate_guard (by rfl) ?_; dsimp only)); refine box_event ?hg (N := 3) ?hd (cs := #[.int .i64 a1_0, .string a1_1, .int .i64 a1_2, .int .i64 a1_3]) (t := 168) ?hr ?_; (case hd => rfl); (case hg => rfl); (case hr => exact z200_); intro gb185 hg w30 hbox hb; replace HO20_0 := q_ (Kd.R_below z61_ hb); replace HO20_1 := q_ (Kd.R_below z62_ hb); have BK185 := q_ (hbox); have GW185 := q_ ((z198_ : w.heap.size ≤ gb185)); replace HK := q_ (Kept.below (S := (fun k_ => P20_0_ k_ ∨ P20_1_ k_)) z41_ hb); have GE185 := q_ ((z181_ : w0.heap.size ≤ gb185)); replace HB := q_ (below_step z45_ hb); have NB20_185 := q_ ((z148_ : gc20 ≠ gb185)); have NB185_20 := q_ ((z149_ : gb185 ≠ gc20)); replace BK20 := q_ (blk_below (g := gc20) (o := .cells #[u9000_, u9001_] 95 (0, 0)) z38_ hb); clear hb hbox hg; have hnb31 := NB185_20.out; have hnc31 := NB20_185.out; obtain ⟨hcz32_0, hcz32_1, hcz32_2, hcz32_3, hfz32_0, hfz32_1, hfz32_2, hfz32_3⟩ := cs4_ BK185.out))
    replace HO20_0 := q_ (Kd.R_drew HO20_0.out)
    replace HO20_1 := q_ (Kd.R_drew HO20_1.out)
    replace BK20 := q_ (blk_drew BK20.out)
    replace BK185 := q_ (blk_drew BK185.out)
    replace HK := q_ (Kept.drew HK.out)
    replace HB := q_ (below_drew1 HB.out)
    obtain ⟨Ao34, co34, eo34⟩ := Kd.R_slice HO20_0.out
    (first | subst eo34 | (injection eo34 with f1_ f2_ f3_; have f4_ := f1_.symm; have f5_ := f3_.symm; clear f1_ f2_ f3_; subst f4_; subst f5_))
    refine start_ (n := 10) (S := fun w' => w'.cell? ⟨gb185, 0, none⟩ = some (.int .i64 a1_0) ∧ w'.cell? ⟨gb185, 1, none⟩ = some (.string a1_1) ∧ w'.cell? ⟨gb185, 2, none⟩ = some (.int .i64 a1_2) ∧ w'.cell? ⟨gb185, 3, none⟩ = some (.int .i64 a1_3) ∧ w'.cell? ⟨gc20, 0, none⟩ = some (.slice Ao34 l20_0.length co34) ∧ w'.cell? ⟨gc20, 1, none⟩ = some (u9001_)) (ds := []) (tf 0 10) (by kernel_rfl) rfl rfl ⟨(blk_cell BK185.out 0).trans rfl, (blk_cell BK185.out 1).trans rfl, (blk_cell BK185.out 2).trans rfl, (blk_cell BK185.out 3).trans rfl, (blk_cell BK20.out 0).trans rfl, (blk_cell BK20.out 1).trans rfl⟩ (fun hHeld => ?_); refine with_tabW impl_Disk_write.tab2 impl_Disk_write.bits2 (fun HT_ HW_ => ?_)
    generalize w30.drew = w33 at HO20_0 HO20_1 BK20 BK185 HK HB hHeld ⊢
    refine p1_ 0 (some 9) (tf 1 9) HT_.out ?_
    refine p1_ 2 (some 11) #[true, false, true, false, false, false, false, false, false, false] HT_.out ?_
    refine p1_ 3 (some 12) #[true, false, true, true, false, false, false, false, false, false] HT_.out ?_
    refine p1_ 4 (some 13) #[true, false, true, true, true, false, false, false, false, false] HT_.out ?_
    refine take_ (i := 1) (N := some 10) (v := ?_) (a' := ?_) (tf 5 5) rfl rfl (take_ofW HT_.out HW_.out (by kernel_rfl)) (fun _ _ _ h => h) (Or.inl ⟨by rfl, ?_⟩) hHeld ?_ ?_
    rotate_left
    ·rintro w' ⟨s0, s1, s2, s3, s4, s5⟩
     go_simp
     with_reducible rfl
    rotate_left
    ·simp only [Act.put, List.setIfInBounds_toArray, List.set_cons_zero, List.set_cons_succ, i64_w, i32_w]
     rfl
    refine take_ (i := 5) (N := some 14) (v := ?_) (a' := ?_) (tf 6 4) rfl rfl (take_ofW HT_.out HW_.out (by kernel_rfl)) (fun _ _ _ h => h) (Or.inl ⟨by rfl, ?_⟩) hHeld ?_ ?_
    rotate_left
    ·rintro w' ⟨s0, s1, s2, s3, s4, s5⟩
     go_simp
     with_reducible rfl
    rotate_left
    ·simp only [Act.put, List.setIfInBounds_toArray, List.set_cons_zero, List.set_cons_succ, i64_w, i32_w]
     rfl
    refine p1_ 6 (some 15) (tf 7 3) HT_.out ?_
    refine p1_ 7 (some 16) (tf 8 2) HT_.out ?_
    refine one_ (i := 8) (N := some 17) (tf 9 1) rfl rfl (one_of HT_.out (by kernel_rfl)) (by decide) (fun K hK => ?_)
    refine goes_ Try.func176 (by kernel_rfl) rfl #[.int .i64 a1_0, .int .i64 0, .int .i64 (wrap64 ((l20_0.length : Int) - 1))] (by rfl) rfl rfl z1_ ?_
    with_reducible refine (impl_within.calls a1_0 0 (wrap64 ((l20_0.length : Int) - 1)) false _ A3.out).mono ?_
    rintro e w' ⟨rfl, ⟨nd, rfl⟩⟩
    refine ⟨_, rfl, ?_⟩
    refine hK.out _ _ ⟨(blk_cell BK185.out 0).trans rfl, (blk_cell BK185.out 1).trans rfl, (blk_cell BK185.out 2).trans rfl, (blk_cell BK185.out 3).trans rfl, (blk_cell BK20.out 0).trans rfl, (blk_cell BK20.out 1).trans rfl⟩ (fun hHeld => ?_)
    clear hK K
    refine norm_ (a' := ?_) ?_ ?_
    rotate_left
    ·show Act.put _ (some 17) _ = _
     simp only [Act.put, List.setIfInBounds_toArray, List.set_cons_zero, List.set_cons_succ, i64_w, i32_w]
     rfl
    refine p1_ 9 (some 8) (tf 10 0) HT_.out ?_
    refine done_ (done_of HT_.out (by kernel_rfl)) ?_
    obtain ⟨hcz35_0, hcz35_1, hcz35_2, hcz35_3, hfz35_0, hfz35_1, hfz35_2, hfz35_3⟩ := cs4_ BK185.out
    obtain ⟨hcz36_0, hcz36_1, hfz36_0, hfz36_1⟩ := cs2_ BK20.out
    obtain ⟨Ao37, co37, eo37⟩ := Kd.R_slice HO20_1.out
    subst eo37
    try go_wp2
    first | go_end0 | ((try simp only [Exit.inBlock, Exit.then]); refine bodyPost_ret (results_none rfl _ _ _) rfl ?_)
    exact ⟨z16_, z61_, z62_, z65_, z63_⟩
  ·rw [if_neg c15] at H
   have c15b0 : (a1_0 == (-1)) = false := beq_eq_false_iff_ne.mpr c15
   have c15b1 : (a1_0 != (-1)) = true := bne_iff_ne.mpr c15
   by_cases c38 : a1_0 = (-2)
   ·rw [if_pos c38] at H
    have c38b0 : (a1_0 == (-2)) = true := beq_iff_eq.mpr c38
    have c38b1 : (a1_0 != (-2)) = false := bne_eq_false_iff_eq.mpr c38
    clear c38
    by_cases c39 : (wrap64 ((-1) - a1_0)) < (l20_1.length : Int)
    ·rw [if_pos c39] at H
     have c39b0 : decide ((wrap64 ((-1) - a1_0)) < (l20_1.length : Int)) = true := decide_eq_true c39
     clear c39
     obtain ⟨ji40, hji40⟩ : ∃ j_ : Int, (wrap64 ((-1) - a1_0)) = j_ := ⟨_, rfl⟩
     replace H : (if 0 ≤ (ji40) then (some (l20_0, (l20_1.set ((ji40) : Int).toNat (⟨a1_2, a1_3⟩ : S166)))) else (none)) = some (r1, r2) := by first | (rw [hji40] at H; exact H) | (simp only [hji40] at H ⊢; exact H)
     (try rw [hji40] at c39b0)
     (try rw [hji40] at hji17)
     (try rw [hji40] at hji17w)
     (try rw [hji40] at A3)
     have hji40w : (IntKind.i64.wrap ((-1) - a1_0)) = ji40 := (i64_w _).trans hji40
     by_cases c41 : 0 ≤ (ji40)
     ·rw [if_pos c41] at H
      have c41b0 : decide (0 ≤ (ji40)) = true := decide_eq_true c41
      clear c41
      obtain ⟨y189, hy_⟩ : ∃ y_ : List (S166), y_ = (l20_1.set ((ji40) : Int).toNat (⟨a1_2, a1_3⟩ : S166)) := ⟨_, rfl⟩
      replace H : (some (l20_0, y189)) = some (r1, r2) := z7_
      have Ny189 := q_ hy_
      clear hy_
      simp only [Option.some.injEq, Prod.mk.injEq] at H
      obtain ⟨rfl, rfl⟩ := H
      go_enter Try.func150, Try.ntmps150
      try go_wp2_with (first | ((with_reducible refine gate_dst (N := 3) rfl ?_); (try (refine gate_guard (by rfl) ?_; dsimp only)); refine box_event ?hg (N := 3) ?hd (cs := #[.int .i64 a1_0, .string a1_1, .int .i64 a1_2, .int .i64 a1_3]) (t := 168) ?hr ?_; (case hd => rfl); (case hg => rfl); (case hr => exact z200_); intro gb185 hg w43 hbox hb; replace HO20_0 := q_ (Kd.R_below z61_ hb); replace HO20_1 := q_ (Kd.R_below z62_ hb); have BK185 := q_ (hbox); have GW185 := q_ ((z198_ : w.heap.size ≤ gb185)); replace HK := q_ (Kept.below (S := (fun k_ => P20_0_ k_ ∨ P20_1_ k_)) z41_ hb); have GE185 := q_ ((z181_ : w0.heap.size ≤ gb185)); replace HB := q_ (below_step z45_ hb); have NB20_185 := q_ ((z148_ : gc20 ≠ gb185)); have NB185_20 := q_ ((z149_ : gb185 ≠ gc20)); replace BK20 := q_ (blk_below (g := gc20) (o := .cells #[u9000_, u9001_] 95 (0, 0)) z38_ hb); clear hb hbox hg; have hnb44 := NB185_20.out; have hnc44 := NB20_185.out; obtain ⟨hcz45_0, hcz45_1, hcz45_2, hcz45_3, hfz45_0, hfz45_1, hfz45_2, hfz45_3⟩ := cs4_ BK185.out))
      replace HO20_0 := q_ (Kd.R_drew HO20_0.out)
      replace HO20_1 := q_ (Kd.R_drew HO20_1.out)
      replace BK20 := q_ (blk_drew BK20.out)
      replace BK185 := q_ (blk_drew BK185.out)
      replace HK := q_ (Kept.drew HK.out)
      replace HB := q_ (below_drew1 HB.out)
      obtain ⟨Ao47, co47, eo47⟩ := Kd.R_slice HO20_0.out
      (first | subst eo47 | (injection eo47 with f1_ f2_ f3_; have f4_ := f1_.symm; have f5_ := f3_.symm; clear f1_ f2_ f3_; subst f4_; subst f5_))
      refine start_ (n := 10) (S := fun w' => w'.cell? ⟨gb185, 0, none⟩ = some (.int .i64 a1_0) ∧ w'.cell? ⟨gb185, 1, none⟩ = some (.string a1_1) ∧ w'.cell? ⟨gb185, 2, none⟩ = some (.int .i64 a1_2) ∧ w'.cell? ⟨gb185, 3, none⟩ = some (.int .i64 a1_3) ∧ w'.cell? ⟨gc20, 0, none⟩ = some (.slice Ao47 l20_0.length co47) ∧ w'.cell? ⟨gc20, 1, none⟩ = some (u9001_)) (ds := []) (tf 0 10) (by kernel_rfl) rfl rfl ⟨(blk_cell BK185.out 0).trans rfl, (blk_cell BK185.out 1).trans rfl, (blk_cell BK185.out 2).trans rfl, (blk_cell BK185.out 3).trans rfl, (blk_cell BK20.out 0).trans rfl, (blk_cell BK20.out 1).trans rfl⟩ (fun hHeld => ?_); refine with_tabW impl_Disk_write.tab2 impl_Disk_write.bits2 (fun HT_ HW_ => ?_)
      generalize w43.drew = w46 at HO20_0 HO20_1 BK20 BK185 HK HB hHeld ⊢
      refine p1_ 0 (some 9) (tf 1 9) HT_.out ?_
      refine p1_ 2 (some 11) #[true, false, true, false, false, false, false, false, false, false] HT_.out ?_
      refine p1_ 3 (some 12) #[true, false, true, true, false, false, false, false, false, false] HT_.out ?_
      refine p1_ 4 (some 13) #[true, false, true, true, true, false, false, false, false, false] HT_.out ?_
      refine take_ (i := 1) (N := some 10) (v := ?_) (a' := ?_) (tf 5 5) rfl rfl (take_ofW HT_.out HW_.out (by kernel_rfl)) (fun _ _ _ h => h) (Or.inl ⟨by rfl, ?_⟩) hHeld ?_ ?_
      rotate_left
      ·rintro w' ⟨s0, s1, s2, s3, s4, s5⟩
       go_simp
       with_reducible rfl
      rotate_left
      ·simp only [Act.put, List.setIfInBounds_toArray, List.set_cons_zero, List.set_cons_succ, i64_w, i32_w]
       rfl
      refine take_ (i := 5) (N := some 14) (v := ?_) (a' := ?_) (tf 6 4) rfl rfl (take_ofW HT_.out HW_.out (by kernel_rfl)) (fun _ _ _ h => h) (Or.inl ⟨by rfl, ?_⟩) hHeld ?_ ?_
      rotate_left
      ·rintro w' ⟨s0, s1, s2, s3, s4, s5⟩
       go_simp
       with_reducible rfl
      rotate_left
      ·simp only [Act.put, List.setIfInBounds_toArray, List.set_cons_zero, List.set_cons_succ, i64_w, i32_w]
       rfl
      refine p1_ 6 (some 15) (tf 7 3) HT_.out ?_
      refine p1_ 7 (some 16) (tf 8 2) HT_.out ?_
      refine one_ (i := 8) (N := some 17) (tf 9 1) rfl rfl (one_of HT_.out (by kernel_rfl)) (by decide) (fun K hK => ?_)
      refine goes_ Try.func176 (by kernel_rfl) rfl #[.int .i64 a1_0, .int .i64 0, .int .i64 (wrap64 ((l20_0.length : Int) - 1))] (by rfl) rfl rfl z1_ ?_
      with_reducible refine (impl_within.calls a1_0 0 (wrap64 ((l20_0.length : Int) - 1)) false _ A3.out).mono ?_
      rintro e w' ⟨rfl, ⟨nd, rfl⟩⟩
      refine ⟨_, rfl, ?_⟩
      refine hK.out _ _ ⟨(blk_cell BK185.out 0).trans rfl, (blk_cell BK185.out 1).trans rfl, (blk_cell BK185.out 2).trans rfl, (blk_cell BK185.out 3).trans rfl, (blk_cell BK20.out 0).trans rfl, (blk_cell BK20.out 1).trans rfl⟩ (fun hHeld => ?_)
      clear hK K
      refine norm_ (a' := ?_) ?_ ?_
      rotate_left
      ·show Act.put _ (some 17) _ = _
       simp only [Act.put, List.setIfInBounds_toArray, List.set_cons_zero, List.set_cons_succ, i64_w, i32_w]
       rfl
      refine p1_ 9 (some 8) (tf 10 0) HT_.out ?_
      refine done_ (done_of HT_.out (by kernel_rfl)) ?_
      obtain ⟨hcz48_0, hcz48_1, hcz48_2, hcz48_3, hfz48_0, hfz48_1, hfz48_2, hfz48_3⟩ := cs4_ BK185.out
      obtain ⟨hcz49_0, hcz49_1, hfz49_0, hfz49_1⟩ := cs2_ BK20.out
      obtain ⟨Ao50, co50, eo50⟩ := Kd.R_slice HO20_1.out
      subst eo50
      try go_wp2
      (try (rw [drewN_self w46]; generalize hq_ : World.drewN w46 _ = w46; have n0_ : Aside0 (Kd.R Kd.string 9 w46 w0.heap.size (fun k_ => ((P20_0_ k_ ∨ P20_1_ k_) ∨ w.heap.size ≤ k_)) (.slice Ao47 l20_0.length co47) l20_0) := ⟨by rw [← hq_]; exact z61_⟩; have n1_ : Aside0 (Kd.R k166 166 w46 w0.heap.size (fun k_ => ((P20_0_ k_ ∨ P20_1_ k_) ∨ w.heap.size ≤ k_)) (.slice Ao50 l20_1.length co50) l20_1) := ⟨by rw [← hq_]; exact z62_⟩; have n2_ : Aside0 (w46.heap[gb185]? = some (.cells #[.int .i64 a1_0, .string a1_1, .int .i64 a1_2, .int .i64 a1_3] 168 (0, 0))) := ⟨by rw [← hq_]; exact z114_⟩; have n3_ : Aside0 (w46.heap[gc20]? = some (.cells #[.slice Ao47 l20_0.length co47, .slice Ao50 l20_1.length co50] 95 (0, 0))) := ⟨by rw [← hq_]; exact z38_⟩; have n4_ : Aside0 (Kept w w46 (fun k_ => P20_0_ k_ ∨ P20_1_ k_)) := ⟨by rw [← hq_]; exact z63_⟩; have n5_ : Aside0 (Below w0.heap.size w0 w46) := ⟨by rw [← hq_]; exact z65_⟩; clear HO20_0 HO20_1 BK185 BK20 HK HB hq_; have HO20_0 := n0_; have HO20_1 := n1_; have BK185 := n2_; have BK20 := n3_; have HK := n4_; have HB := n5_; clear n0_ n1_ n2_ n3_ n4_ n5_)); obtain ⟨hcq185_0, hcq185_1, hcq185_2, hcq185_3, hfq185_0, hfq185_1, hfq185_2, hfq185_3⟩ := cs4_ BK185.out
      replace HO20_0 := q_ (Kd.R_drew HO20_0.out)
      replace HO20_1 := q_ (Kd.R_drew HO20_1.out)
      replace BK20 := q_ (blk_drew BK20.out)
      replace BK185 := q_ (blk_drew BK185.out)
      replace HK := q_ (Kept.drew HK.out)
      replace HB := q_ (below_drew1 HB.out)
      have p42 : 0 ≤ ((ji40) : Int) := of_decide_eq_true z2_
      have q42 : ((ji40) : Int) < ((l20_1.length : Int) : Int) := of_decide_eq_true z2_
      obtain ⟨go42, co42, eo42, gb42, gl42, cl42, HG42⟩ := Kd.R_form HO20_1.out (by omega)
      (first | cases eo42 | (injection eo42 with ea_ en_ ec_; (first | subst ea_ | (injection ea_ with ea_; subst ea_)); subst ec_; clear en_))
      have GB42 := q_ gb42
      have GG42 := q_ HG42
      clear gb42 gl42 HG42
      have HMgo42 := q_ (show ((P20_0_ go42 ∨ P20_1_ go42) ∨ w.heap.size ≤ go42) from (HO20_1.out.1 _ rfl))
      obtain ⟨ce42, hcl42, hM42, hcc42, hfr42⟩ := Kd.R_elem HO20_1.out z166 ((ji40) : Int) p42 q42
      obtain rfl := k166_openM hM42
      have hx42_0 : World.cell? _ ⟨go42, ((ji40) : Int).toNat * 2, none⟩ = some (.int .i64 ((rd_T166 l20_1 (ji40)).f0)) := hcc42 0 _ rfl
      have hx42_1 : World.cell? _ ⟨go42, ((ji40) : Int).toNat * 2 + 1, none⟩ = some (.int .i64 ((rd_T166 l20_1 (ji40)).f1)) := hcc42 1 _ rfl
      have hf42_0 : World.frozen? _ ⟨go42, ((ji40) : Int).toNat * 2, none⟩ = false := hfr42 0
      have hf42_1 : World.frozen? _ ⟨go42, ((ji40) : Int).toNat * 2 + 1, none⟩ = false := hfr42 1
      clear hcl42 hcc42 hfr42 hM42
      replace p42 := eq_true p42
      replace q42 := eq_true q42
      obtain ⟨ce52, hcl52, hM52, hcc52, hfr52⟩ := Kd.R_elem HO20_1.out z166 ((ji40) : Int) (of_decide_eq_true z2_) z164_
      obtain rfl := k166_openM hM52
      have HP52 := (Kd.R_seg HO20_1.out ((ji40) : Int) (of_decide_eq_true z2_) z164_ (seg := [.int .i64 a1_2, .int .i64 a1_3]) (j := 0) hcl52 hcc52 (show 2 ≤ 2 from by decide) (x' := (⟨a1_2, a1_3⟩ : S166)) (k166_mkM _ _ _ (⟨a1_2, a1_3⟩ : S166) ) (fun _ hk => hk)).1
      rw [← Ny189.out] at HP52
      have HQ52 := q_ HP52
      clear hcl52 hcc52 hfr52 hM52 HP52
      refine start_ (n := 9) (S := fun w' => w'.cell? ⟨gc20, 0, none⟩ = some (.slice Ao47 l20_0.length co47) ∧ w'.cell? ⟨gc20, 1, none⟩ = some (.slice (some ⟨go42, 0, none⟩) l20_1.length co50) ∧ w'.cell? ⟨gb185, 0, none⟩ = some (.int .i64 a1_0) ∧ w'.cell? ⟨gb185, 1, none⟩ = some (.string a1_1) ∧ w'.cell? ⟨gb185, 2, none⟩ = some (.int .i64 a1_2) ∧ w'.cell? ⟨gb185, 3, none⟩ = some (.int .i64 a1_3)) (ds := [8]) (tf 0 9) (by kernel_rfl) rfl rfl ⟨(blk_cell BK20.out 0).trans rfl, (blk_cell BK20.out 1).trans rfl, (blk_cell BK185.out 0).trans rfl, (blk_cell BK185.out 1).trans rfl, (blk_cell BK185.out 2).trans rfl, (blk_cell BK185.out 3).trans rfl⟩ (fun hHeld => ?_); refine with_tabW impl_Disk_write.tab5 impl_Disk_write.bits5 (fun HT_ HW_ => ?_)
      generalize w46.drew = w51 at HO20_0 HO20_1 BK20 BK185 HK HB GG42 HQ52 hf42_0 hf42_1 hx42_0 hx42_1 hHeld ⊢
      refine p1_ 0 (some 45) (tf 1 8) HT_.out ?_
      refine p1_ 1 (some 46) (tf 2 7) HT_.out ?_
      refine p1_ 2 (some 47) (tf 3 6) HT_.out ?_
      refine p1_ 4 (some 49) #[true, true, true, false, true, false, false, false, false] HT_.out ?_
      refine p1_ 5 (some 50) #[true, true, true, false, true, true, false, false, false] HT_.out ?_
      refine take_ (i := 3) (N := some 48) (v := ?_) (a' := ?_) (tf 6 3) rfl rfl (take_ofW HT_.out HW_.out (by kernel_rfl)) (fun _ _ _ h => h) (Or.inl ⟨by rfl, ?_⟩) hHeld ?_ ?_
      rotate_left
      ·rintro w' ⟨s0, s1, s2, s3, s4, s5⟩
       go_simp
       with_reducible rfl
      rotate_left
      ·simp only [Act.put, List.setIfInBounds_toArray, List.set_cons_zero, List.set_cons_succ, i64_w, i32_w]
       rfl
      refine take_ (i := 6) (N := some 51) (v := ?_) (a' := ?_) (tf 7 2) rfl rfl (take_ofW HT_.out HW_.out (by kernel_rfl)) (fun _ _ _ h => h) (Or.inl ⟨by rfl, ?_⟩) hHeld ?_ ?_
      rotate_left
      ·rintro w' ⟨s0, s1, s2, s3, s4, s5⟩
       go_simp
       with_reducible rfl
      rotate_left
      ·simp only [Act.put, List.setIfInBounds_toArray, List.set_cons_zero, List.set_cons_succ, i64_w, i32_w]
       rfl
      refine p1_ 7 (some 52) (tf 8 1) HT_.out ?_
      refine last_ (i := 8) (N := none) (tf 9 0) rfl rfl (one_of HT_.out (by kernel_rfl)) (by decide) (fun K hK => ?_)
      refine skip_ (w1 := ?_) (by rfl) rfl ?_ ?_
      rotate_left
      ·go_simp
       rfl
      refine hK.out _ _ ?_
      clear hK K
      refine done_ (done_of HT_.out (by kernel_rfl)) ?_
      try go_wp2
      first | go_end0 | ((try simp only [Exit.inBlock, Exit.then]); refine bodyPost_ret (results_none rfl _ _ _) rfl ?_)
      exact ⟨by first | rfl | (simp [errW_none, errW_some] <;> rfl) | (simp only [← hji40]; first | rfl | (simp [errW_none, errW_some] <;> rfl)) | (simp [*, errW_none, errW_some] <;> rfl), by (with_reducible repeat (first | apply Kd.R_alloc | apply Kd.R_drewN | apply Kd.R_drew)); exact Kd.R_mono (Kd.R_far (p := ⟨go42, ((ji40) : Int).toNat * 2 + 1, none⟩) (Kd.R_far (p := ⟨go42, ((ji40) : Int).toNat * 2, none⟩) (Kd.R_types HO20_0.out GG42.out (by decide)) (fun _ hk => hk.2) (.int .i64 a1_2)) (fun _ hk => hk.2) (.int .i64 a1_3)) (fun _ hk => hk.1), by (with_reducible repeat (first | apply Kd.R_alloc | apply Kd.R_drewN | apply Kd.R_drew)); exact HQ52.out, by repeat (first | (with_reducible first | exact HB.out | apply below_alloc | apply pw_below_drewN | apply below_drew1 | refine below_set ?_ GB42.out | refine below_set ?_ GB42.out | refine below_set ?_ GE20.out | refine below_set ?_ GE185.out) | exact HB.out), by repeat (first | (with_reducible first | exact HK.out | apply Kept.alloc | apply Kept.drewN | apply Kept.drew | refine Kept.setCell ?_ HMgo42.out _ | refine Kept.setCell ?_ HMgo42.out _ | refine Kept.setCell ?_ (.inr GW20.out) _ | refine Kept.setCell ?_ (.inr GW185.out) _) | exact HK.out)⟩
     ·rw [if_neg c41] at H
      exact absurd H (by simp)
    ·rw [if_neg c39] at H
     have c39b0 : decide ((wrap64 ((-1) - a1_0)) < (l20_1.length : Int)) = false := decide_eq_false c39
     clear c39
     simp only [Option.some.injEq, Prod.mk.injEq] at H
     obtain ⟨rfl, rfl⟩ := H
     go_enter Try.func150, Try.ntmps150
     try go_wp2_with (first | ((with_reducible refine gate_dst (N := 3) rfl ?_); (try (refine gate_guard (by rfl) ?_; dsimp only)); refine box_event ?hg (N := 3) ?hd (cs := #[.int .i64 a1_0, .string a1_1, .int .i64 a1_2, .int .i64 a1_3]) (t := 168) ?hr ?_; (case hd => rfl); (case hg => rfl); (case hr => exact z200_); intro gb185 hg w53 hbox hb; replace HO20_0 := q_ (Kd.R_below z61_ hb); replace HO20_1 := q_ (Kd.R_below z62_ hb); have BK185 := q_ (hbox); have GW185 := q_ ((z198_ : w.heap.size ≤ gb185)); replace HK := q_ (Kept.below (S := (fun k_ => P20_0_ k_ ∨ P20_1_ k_)) z41_ hb); have GE185 := q_ ((z181_ : w0.heap.size ≤ gb185)); replace HB := q_ (below_step z45_ hb); have NB20_185 := q_ ((z148_ : gc20 ≠ gb185)); have NB185_20 := q_ ((z149_ : gb185 ≠ gc20)); replace BK20 := q_ (blk_below (g := gc20) (o := .cells #[u9000_, u9001_] 95 (0, 0)) z38_ hb); clear hb hbox hg; have hnb54 := NB185_20.out; have hnc54 := NB20_185.out; obtain ⟨hcz55_0, hcz55_1, hcz55_2, hcz55_3, hfz55_0, hfz55_1, hfz55_2, hfz55_3⟩ := cs4_ BK185.out))
     replace HO20_0 := q_ (Kd.R_drew HO20_0.out)
     replace HO20_1 := q_ (Kd.R_drew HO20_1.out)
     replace BK20 := q_ (blk_drew BK20.out)
     replace BK185 := q_ (blk_drew BK185.out)
     replace HK := q_ (Kept.drew HK.out)
     replace HB := q_ (below_drew1 HB.out)
     obtain ⟨Ao57, co57, eo57⟩ := Kd.R_slice HO20_0.out
     (first | subst eo57 | (injection eo57 with f1_ f2_ f3_; have f4_ := f1_.symm; have f5_ := f3_.symm; clear f1_ f2_ f3_; subst f4_; subst f5_))
     refine start_ (n := 10) (S := fun w' => w'.cell? ⟨gb185, 0, none⟩ = some (.int .i64 a1_0) ∧ w'.cell? ⟨gb185, 1, none⟩ = some (.string a1_1) ∧ w'.cell? ⟨gb185, 2, none⟩ = some (.int .i64 a1_2) ∧ w'.cell? ⟨gb185, 3, none⟩ = some (.int .i64 a1_3) ∧ w'.cell? ⟨gc20, 0, none⟩ = some (.slice Ao57 l20_0.length co57) ∧ w'.cell? ⟨gc20, 1, none⟩ = some (u9001_)) (ds := []) (tf 0 10) (by kernel_rfl) rfl rfl ⟨(blk_cell BK185.out 0).trans rfl, (blk_cell BK185.out 1).trans rfl, (blk_cell BK185.out 2).trans rfl, (blk_cell BK185.out 3).trans rfl, (blk_cell BK20.out 0).trans rfl, (blk_cell BK20.out 1).trans rfl⟩ (fun hHeld => ?_); refine with_tabW impl_Disk_write.tab2 impl_Disk_write.bits2 (fun HT_ HW_ => ?_)
     generalize w53.drew = w56 at HO20_0 HO20_1 BK20 BK185 HK HB hHeld ⊢
     refine p1_ 0 (some 9) (tf 1 9) HT_.out ?_
     refine p1_ 2 (some 11) #[true, false, true, false, false, false, false, false, false, false] HT_.out ?_
     refine p1_ 3 (some 12) #[true, false, true, true, false, false, false, false, false, false] HT_.out ?_
     refine p1_ 4 (some 13) #[true, false, true, true, true, false, false, false, false, false] HT_.out ?_
     refine take_ (i := 1) (N := some 10) (v := ?_) (a' := ?_) (tf 5 5) rfl rfl (take_ofW HT_.out HW_.out (by kernel_rfl)) (fun _ _ _ h => h) (Or.inl ⟨by rfl, ?_⟩) hHeld ?_ ?_
     rotate_left
     ·rintro w' ⟨s0, s1, s2, s3, s4, s5⟩
      go_simp
      with_reducible rfl
     rotate_left
     ·simp only [Act.put, List.setIfInBounds_toArray, List.set_cons_zero, List.set_cons_succ, i64_w, i32_w]
      rfl
     refine take_ (i := 5) (N := some 14) (v := ?_) (a' := ?_) (tf 6 4) rfl rfl (take_ofW HT_.out HW_.out (by kernel_rfl)) (fun _ _ _ h => h) (Or.inl ⟨by rfl, ?_⟩) hHeld ?_ ?_
     rotate_left
     ·rintro w' ⟨s0, s1, s2, s3, s4, s5⟩
      go_simp
      with_reducible rfl
     rotate_left
     ·simp only [Act.put, List.setIfInBounds_toArray, List.set_cons_zero, List.set_cons_succ, i64_w, i32_w]
      rfl
     refine p1_ 6 (some 15) (tf 7 3) HT_.out ?_
     refine p1_ 7 (some 16) (tf 8 2) HT_.out ?_
     refine one_ (i := 8) (N := some 17) (tf 9 1) rfl rfl (one_of HT_.out (by kernel_rfl)) (by decide) (fun K hK => ?_)
     refine goes_ Try.func176 (by kernel_rfl) rfl #[.int .i64 a1_0, .int .i64 0, .int .i64 (wrap64 ((l20_0.length : Int) - 1))] (by rfl) rfl rfl z1_ ?_
     with_reducible refine (impl_within.calls a1_0 0 (wrap64 ((l20_0.length : Int) - 1)) false _ A3.out).mono ?_
     rintro e w' ⟨rfl, ⟨nd, rfl⟩⟩
     refine ⟨_, rfl, ?_⟩
     refine hK.out _ _ ⟨(blk_cell BK185.out 0).trans rfl, (blk_cell BK185.out 1).trans rfl, (blk_cell BK185.out 2).trans rfl, (blk_cell BK185.out 3).trans rfl, (blk_cell BK20.out 0).trans rfl, (blk_cell BK20.out 1).trans rfl⟩ (fun hHeld => ?_)
     clear hK K
     refine norm_ (a' := ?_) ?_ ?_
     rotate_left
     ·show Act.put _ (some 17) _ = _
      simp only [Act.put, List.setIfInBounds_toArray, List.set_cons_zero, List.set_cons_succ, i64_w, i32_w]
      rfl
     refine p1_ 9 (some 8) (tf 10 0) HT_.out ?_
     refine done_ (done_of HT_.out (by kernel_rfl)) ?_
     obtain ⟨hcz58_0, hcz58_1, hcz58_2, hcz58_3, hfz58_0, hfz58_1, hfz58_2, hfz58_3⟩ := cs4_ BK185.out
     obtain ⟨hcz59_0, hcz59_1, hfz59_0, hfz59_1⟩ := cs2_ BK20.out
     obtain ⟨Ao60, co60, eo60⟩ := Kd.R_slice HO20_1.out
     subst eo60
     try go_wp2
     first | go_end0 | ((try simp only [Exit.inBlock, Exit.then]); refine bodyPost_ret (results_none rfl _ _ _) rfl ?_)
     exact ⟨z16_, z61_, z62_, z65_, z63_⟩
   ·rw [if_neg c38] at H
    have c38b0 : (a1_0 == (-2)) = false := beq_eq_false_iff_ne.mpr c38
    have c38b1 : (a1_0 != (-2)) = true := bne_iff_ne.mpr c38
    simp only [Option.some.injEq, Prod.mk.injEq] at H
    obtain ⟨rfl, rfl⟩ := H
    go_enter Try.func150, Try.ntmps150
    try go_wp2_with (first | ((with_reducible refine gate_dst (N := 3) rfl ?_); (try (refine gate_guard (by rfl) ?_; dsimp only)); refine box_event ?hg (N := 3) ?hd (cs := #[.int .i64 a1_0, .string a1_1, .int .i64 a1_2, .int .i64 a1_3]) (t := 168) ?hr ?_; (case hd => rfl); (case hg => rfl); (case hr => exact z200_); intro gb185 hg w61 hbox hb; replace HO20_0 := q_ (Kd.R_below z61_ hb); replace HO20_1 := q_ (Kd.R_below z62_ hb); have BK185 := q_ (hbox); have GW185 := q_ ((z198_ : w.heap.size ≤ gb185)); replace HK := q_ (Kept.below (S := (fun k_ => P20_0_ k_ ∨ P20_1_ k_)) z41_ hb); have GE185 := q_ ((z181_ : w0.heap.size ≤ gb185)); replace HB := q_ (below_step z45_ hb); have NB20_185 := q_ ((z148_ : gc20 ≠ gb185)); have NB185_20 := q_ ((z149_ : gb185 ≠ gc20)); replace BK20 := q_ (blk_below (g := gc20) (o := .cells #[u9000_, u9001_] 95 (0, 0)) z38_ hb); clear hb hbox hg; have hnb62 := NB185_20.out; have hnc62 := NB20_185.out; obtain ⟨hcz63_0, hcz63_1, hcz63_2, hcz63_3, hfz63_0, hfz63_1, hfz63_2, hfz63_3⟩ := cs4_ BK185.out))
    replace HO20_0 := q_ (Kd.R_drew HO20_0.out)
    replace HO20_1 := q_ (Kd.R_drew HO20_1.out)
    replace BK20 := q_ (blk_drew BK20.out)
    replace BK185 := q_ (blk_drew BK185.out)
    replace HK := q_ (Kept.drew HK.out)
    replace HB := q_ (below_drew1 HB.out)
    obtain ⟨Ao65, co65, eo65⟩ := Kd.R_slice HO20_0.out
    (first | subst eo65 | (injection eo65 with f1_ f2_ f3_; have f4_ := f1_.symm; have f5_ := f3_.symm; clear f1_ f2_ f3_; subst f4_; subst f5_))
    refine start_ (n := 10) (S := fun w' => w'.cell? ⟨gb185, 0, none⟩ = some (.int .i64 a1_0) ∧ w'.cell? ⟨gb185, 1, none⟩ = some (.string a1_1) ∧ w'.cell? ⟨gb185, 2, none⟩ = some (.int .i64 a1_2) ∧ w'.cell? ⟨gb185, 3, none⟩ = some (.int .i64 a1_3) ∧ w'.cell? ⟨gc20, 0, none⟩ = some (.slice Ao65 l20_0.length co65) ∧ w'.cell? ⟨gc20, 1, none⟩ = some (u9001_)) (ds := []) (tf 0 10) (by kernel_rfl) rfl rfl ⟨(blk_cell BK185.out 0).trans rfl, (blk_cell BK185.out 1).trans rfl, (blk_cell BK185.out 2).trans rfl, (blk_cell BK185.out 3).trans rfl, (blk_cell BK20.out 0).trans rfl, (blk_cell BK20.out 1).trans rfl⟩ (fun hHeld => ?_); refine with_tabW impl_Disk_write.tab2 impl_Disk_write.bits2 (fun HT_ HW_ => ?_)
    generalize w61.drew = w64 at HO20_0 HO20_1 BK20 BK185 HK HB hHeld ⊢
    refine p1_ 0 (some 9) (tf 1 9) HT_.out ?_
    refine p1_ 2 (some 11) #[true, false, true, false, false, false, false, false, false, false] HT_.out ?_
    refine p1_ 3 (some 12) #[true, false, true, true, false, false, false, false, false, false] HT_.out ?_
    refine p1_ 4 (some 13) #[true, false, true, true, true, false, false, false, false, false] HT_.out ?_
    refine take_ (i := 1) (N := some 10) (v := ?_) (a' := ?_) (tf 5 5) rfl rfl (take_ofW HT_.out HW_.out (by kernel_rfl)) (fun _ _ _ h => h) (Or.inl ⟨by rfl, ?_⟩) hHeld ?_ ?_
    rotate_left
    ·rintro w' ⟨s0, s1, s2, s3, s4, s5⟩
     go_simp
     with_reducible rfl
    rotate_left
    ·simp only [Act.put, List.setIfInBounds_toArray, List.set_cons_zero, List.set_cons_succ, i64_w, i32_w]
     rfl
    refine take_ (i := 5) (N := some 14) (v := ?_) (a' := ?_) (tf 6 4) rfl rfl (take_ofW HT_.out HW_.out (by kernel_rfl)) (fun _ _ _ h => h) (Or.inl ⟨by rfl, ?_⟩) hHeld ?_ ?_
    rotate_left
    ·rintro w' ⟨s0, s1, s2, s3, s4, s5⟩
     go_simp
     with_reducible rfl
    rotate_left
    ·simp only [Act.put, List.setIfInBounds_toArray, List.set_cons_zero, List.set_cons_succ, i64_w, i32_w]
     rfl
    refine p1_ 6 (some 15) (tf 7 3) HT_.out ?_
    refine p1_ 7 (some 16) (tf 8 2) HT_.out ?_
    refine one_ (i := 8) (N := some 17) (tf 9 1) rfl rfl (one_of HT_.out (by kernel_rfl)) (by decide) (fun K hK => ?_)
    refine goes_ Try.func176 (by kernel_rfl) rfl #[.int .i64 a1_0, .int .i64 0, .int .i64 (wrap64 ((l20_0.length : Int) - 1))] (by rfl) rfl rfl z1_ ?_
    with_reducible refine (impl_within.calls a1_0 0 (wrap64 ((l20_0.length : Int) - 1)) false _ A3.out).mono ?_
    rintro e w' ⟨rfl, ⟨nd, rfl⟩⟩
    refine ⟨_, rfl, ?_⟩
    refine hK.out _ _ ⟨(blk_cell BK185.out 0).trans rfl, (blk_cell BK185.out 1).trans rfl, (blk_cell BK185.out 2).trans rfl, (blk_cell BK185.out 3).trans rfl, (blk_cell BK20.out 0).trans rfl, (blk_cell BK20.out 1).trans rfl⟩ (fun hHeld => ?_)
    clear hK K
    refine norm_ (a' := ?_) ?_ ?_
    rotate_left
    ·show Act.put _ (some 17) _ = _
     simp only [Act.put, List.setIfInBounds_toArray, List.set_cons_zero, List.set_cons_succ, i64_w, i32_w]
     rfl
    refine p1_ 9 (some 8) (tf 10 0) HT_.out ?_
    refine done_ (done_of HT_.out (by kernel_rfl)) ?_
    obtain ⟨hcz66_0, hcz66_1, hcz66_2, hcz66_3, hfz66_0, hfz66_1, hfz66_2, hfz66_3⟩ := cs4_ BK185.out
    try go_wp2
    first | go_end0 | ((try simp only [Exit.inBlock, Exit.then]); refine bodyPost_ret (results_none rfl _ _ _) rfl ?_)
    exact ⟨z16_, z61_, z62_, z65_, z63_⟩

end Go.Proofs.Ytphlmbhjeoljoaa.PFnExactDo
