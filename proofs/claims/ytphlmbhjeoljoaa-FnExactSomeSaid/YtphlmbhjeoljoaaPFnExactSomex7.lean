-- Written by a program of this session, which goes by the kit's print. Not trusted: Lean checks it.
import Derived.Test.YtphlmbhjeoljoaaPFnExactSomex0
import Derived.Test.YtphlmbhjeoljoaaPFnExactSomex6
namespace Go.Proofs.Ytphlmbhjeoljoaa.PFnExactSome
open Go.RowKit Go.Proofs.YtphlmbhjeoljoaaW.PrintWords Go.Proofs.YtphlmbhjeoljoaaW.PrintLast Go.Proofs.YtphlmbhjeoljoaaW.PrintMore
attribute [local go_sem] max2_int min2_int max_two min_two max_three min_three max_four min_four   -- for this text's walks alone
set_option linter.unusedVariables false
set_option linter.unusedSimpArgs false

/-! ### impl_Disk_write: function 150 -/
def impl_Disk_write.f (l20_0 : List ByteArray) (l20_1 : List (S166)) (a1_0 : Int) (a1_1 : ByteArray) (a1_2 : Int) (a1_3 : Int) : Option (List ByteArray × (List (S166))) := (impl_within.f a1_0 0 (wrap64 ((l20_0.length : Int) - 1))).bind fun t248 => (if t248 = true then (if 0 ≤ a1_0 then (if a1_0 < (l20_0.length : Int) then (some ((l20_0.set (a1_0 : Int).toNat a1_1), l20_1)) else (none)) else (none)) else (if a1_0 = (-1) then (if (wrap64 ((-1) - a1_0)) < (l20_1.length : Int) then (if 0 ≤ (wrap64 ((-1) - a1_0)) then (some (l20_0, (l20_1.set ((wrap64 ((-1) - a1_0)) : Int).toNat (⟨a1_2, a1_3⟩ : S166)))) else (none)) else (some (l20_0, l20_1))) else (if a1_0 = (-2) then (if (wrap64 ((-1) - a1_0)) < (l20_1.length : Int) then (if 0 ≤ (wrap64 ((-1) - a1_0)) then (some (l20_0, (l20_1.set ((wrap64 ((-1) - a1_0)) : Int).toNat (⟨a1_2, a1_3⟩ : S166)))) else (none)) else (some (l20_0, l20_1))) else (some (l20_0, l20_1)))))
def impl_Disk_write.T2 : Bool × List (List Nat × List Nat) := (true, [([], []), ([0], [0]), ([], []), ([2], [2]), ([3], [3]), ([4], [4]), ([5], [5]), ([6], [6]), ([1, 7], [1, 7]), ([8, 8], [8])])
def impl_Disk_write.B2 : List Nat := [0, 1, 0, 4, 12, 28, 60, 124, 255, 511]
theorem impl_Disk_write.tab2 : rtab .any (opsOf Try.f150 2) = impl_Disk_write.T2 := by kernel_rfl
theorem impl_Disk_write.bits2 : waitsOk impl_Disk_write.T2.2 impl_Disk_write.B2 = true := by kernel_rfl
def impl_Disk_write.T3 : Bool × List (List Nat × List Nat) := (true, [([], []), ([0], [0]), ([1], [1]), ([2], [2]), ([], []), ([4], [4]), ([], []), ([6], [6]), ([3, 5, 0, 1, 2, 3, 4, 5, 6, 7], [3, 5]), ([8, 7, 0, 1, 2, 3, 4, 5, 6, 7], [7, 8])])
def impl_Disk_write.B3 : List Nat := [0, 1, 3, 7, 0, 16, 0, 64, 255, 511]
theorem impl_Disk_write.tab3 : rtab .any (opsOf Try.f150 3) = impl_Disk_write.T3 := by kernel_rfl
theorem impl_Disk_write.bits3 : waitsOk impl_Disk_write.T3.2 impl_Disk_write.B3 = true := by kernel_rfl
def impl_Disk_write.T5 : Bool × List (List Nat × List Nat) := (true, [([], []), ([0], [0]), ([1], [1]), ([2], [2]), ([], []), ([], []), ([5], [5]), ([3, 4, 0, 1, 2, 3, 4, 5, 6], [3, 4]), ([7, 6, 0, 1, 2, 3, 4, 5, 6], [6, 7])])
def impl_Disk_write.B5 : List Nat := [0, 1, 3, 7, 0, 0, 32, 127, 255]
theorem impl_Disk_write.tab5 : rtab .any (opsOf Try.f150 5) = impl_Disk_write.T5 := by kernel_rfl
theorem impl_Disk_write.bits5 : waitsOk impl_Disk_write.T5.2 impl_Disk_write.B5 = true := by kernel_rfl
set_option maxHeartbeats 8000000 in
set_option maxRecDepth 100000 in
theorem impl_Disk_write.calls (gc20 : Nat) (P20_0_ : Nat → Prop) (u9000_ : Value) (l20_0 : List ByteArray) (P20_1_ : Nat → Prop) (u9001_ : Value) (l20_1 : List (S166)) (a1_0 : Int) (a1_1 : ByteArray) (a1_2 : Int) (a1_3 : Int) (r1 : List ByteArray) (r2 : List (S166)) (w0 w : World) (hB : Below w0.heap.size w0 w) (ho20_0 : Kd.R Kd.string 9 w w0.heap.size P20_0_ u9000_ l20_0) (ho20_1 : Kd.R k166 166 w w0.heap.size P20_1_ u9001_ l20_1) (hb20 : w.heap[gc20]? = some (.cells #[u9000_, u9001_] 95 (0, 0))) (h : impl_Disk_write.f l20_0 l20_1 a1_0 a1_1 a1_2 a1_3 = some (r1, r2)) :
  Calls Try.prog 150 #[.pointer (some ⟨gc20, 0, none⟩), .agg #[.int .i64 a1_0, .string a1_1, .int .i64 a1_2, .int .i64 a1_3]] w fun e w' => e = .returned (.tuple #[]) ∧ Kd.R Kd.string 9 w' w0.heap.size (fun k_ => ((P20_0_ k_ ∨ P20_1_ k_) ∨ w.heap.size ≤ k_)) u9000_ r1 ∧ Kd.R k166 166 w' w0.heap.size (fun k_ => ((P20_0_ k_ ∨ P20_1_ k_) ∨ w.heap.size ≤ k_)) u9001_ r2 ∧ Below w0.heap.size w0 w' ∧ Kept w w' (fun k_ => P20_0_ k_ ∨ P20_1_ k_) := by
 have hu168 := Try.underlying168
 have hu166 := Try.underlying166
 have HO20_0 := q_ (show Kd.R Kd.string 9 w w0.heap.size (fun k_ => ((P20_0_ k_ ∨ P20_1_ k_) ∨ w.heap.size ≤ k_)) u9000_ l20_0 from Kd.R_mono ho20_0 (fun k_ hk => (.inl (.inl hk))))
 have HO20_1 := q_ (show Kd.R k166 166 w w0.heap.size (fun k_ => ((P20_0_ k_ ∨ P20_1_ k_) ∨ w.heap.size ≤ k_)) u9001_ l20_1 from Kd.R_mono ho20_1 (fun k_ hk => (.inl (.inr hk))))
 have BK20 := q_ hb20
 clear hb20
 have HK := q_ (Kept.refl w (fun k_ => P20_0_ k_ ∨ P20_1_ k_))
 have HW0 := q_ hB.size
 have HB := q_ hB
 clear hB
 have H : ((impl_within.f a1_0 0 (wrap64 ((l20_0.length : Int) - 1))).bind fun t248 => (if t248 = true then (if 0 ≤ a1_0 then (if a1_0 < (l20_0.length : Int) then (some ((l20_0.set (a1_0 : Int).toNat a1_1), l20_1)) else (none)) else (none)) else (if a1_0 = (-1) then (if (wrap64 ((-1) - a1_0)) < (l20_1.length : Int) then (if 0 ≤ (wrap64 ((-1) - a1_0)) then (some (l20_0, (l20_1.set ((wrap64 ((-1) - a1_0)) : Int).toNat (⟨a1_2, a1_3⟩ : S166)))) else (none)) else (some (l20_0, l20_1))) else (if a1_0 = (-2) then (if (wrap64 ((-1) - a1_0)) < (l20_1.length : Int) then (if 0 ≤ (wrap64 ((-1) - a1_0)) then (some (l20_0, (l20_1.set ((wrap64 ((-1) - a1_0)) : Int).toNat (⟨a1_2, a1_3⟩ : S166)))) else (none)) else (some (l20_0, l20_1))) else (some (l20_0, l20_1)))))) = some (r1, r2) := h
 clear h
 replace H := Option.bind_eq_some_iff.mp H
 obtain ⟨t248, A30, H⟩ := H
 replace H : (if t248 = true then (if 0 ≤ a1_0 then (if a1_0 < (l20_0.length : Int) then (some ((l20_0.set (a1_0 : Int).toNat a1_1), l20_1)) else (none)) else (none)) else (if a1_0 = (-1) then (if (wrap64 ((-1) - a1_0)) < (l20_1.length : Int) then (if 0 ≤ (wrap64 ((-1) - a1_0)) then (some (l20_0, (l20_1.set ((wrap64 ((-1) - a1_0)) : Int).toNat (⟨a1_2, a1_3⟩ : S166)))) else (none)) else (some (l20_0, l20_1))) else (if a1_0 = (-2) then (if (wrap64 ((-1) - a1_0)) < (l20_1.length : Int) then (if 0 ≤ (wrap64 ((-1) - a1_0)) then (some (l20_0, (l20_1.set ((wrap64 ((-1) - a1_0)) : Int).toNat (⟨a1_2, a1_3⟩ : S166)))) else (none)) else (some (l20_0, l20_1))) else (some (l20_0, l20_1))))) = some (r1, r2) := H
 have A3 := q_ A30
 clear A30
 have HC4 := q_ H
 clear H
 go_enter Try.func150, Try.ntmps150
 try go_wp2_with (first | ((with_reducible refine gate_dst (N := 3) rfl ?_); (try (refine gate_guard (by rfl) ?_; dsimp only)); refine box_event ?hg (N := 3) ?hd (cs := #[.int .i64 a1_0, .string a1_1, .int .i64 a1_2, .int .i64 a1_3]) (t := 168) ?hr ?_; (case hd => rfl); (case hg => rfl); (case hr => exact z177_); intro gb247 hg w5 hbox hb; replace HO20_0 := q_ (Kd.R_below z68_ hb); replace HO20_1 := q_ (Kd.R_below z69_ hb); have BK247 := q_ (hbox); have GW247 := q_ ((by rw [hg]; exact (by first | exact HK.out.1 | exact (show Kept w _ (fun k_ => P20_0_ k_ ∨ P20_1_ k_) from z117_).1) : w.heap.size ≤ gb247)); replace HK := q_ (Kept.below (S := (fun k_ => P20_0_ k_ ∨ P20_1_ k_)) z117_ hb); have GE247 := q_ ((by rw [hg]; exact (below_size z119_) : w0.heap.size ≤ gb247)); replace HB := q_ (below_step z119_ hb); have NB20_247 := q_ ((by rw [hg]; exact Nat.ne_of_lt (blk_lt (g := gc20) (o := .cells #[u9000_, u9001_] 95 (0, 0)) z73_) : gc20 ≠ gb247)); have NB247_20 := q_ ((by rw [hg]; exact Nat.ne_of_gt (blk_lt (g := gc20) (o := .cells #[u9000_, u9001_] 95 (0, 0)) z73_) : gb247 ≠ gc20)); replace BK20 := q_ (blk_below (g := gc20) (o := .cells #[u9000_, u9001_] 95 (0, 0)) z73_ hb); clear hb hbox hg; have hnb6 := NB247_20.out; have hnc6 := NB20_247.out; obtain ⟨hcz7_0, hcz7_1, hcz7_2, hcz7_3, hfz7_0, hfz7_1, hfz7_2, hfz7_3⟩ := cs4_ BK247.out))
 replace HO20_0 := q_ (Kd.R_drew HO20_0.out)
 replace HO20_1 := q_ (Kd.R_drew HO20_1.out)
 replace BK20 := q_ (blk_drew BK20.out)
 replace BK247 := q_ (blk_drew BK247.out)
 replace HK := q_ (Kept.drew HK.out)
 replace HB := q_ (below_drew1 HB.out)
 obtain ⟨Ao9, co9, eo9⟩ := Kd.R_slice HO20_0.out
 (first | subst eo9 | (injection eo9 with f1_ f2_ f3_; have f4_ := f1_.symm; have f5_ := f3_.symm; clear f1_ f2_ f3_; subst f4_; subst f5_))
 refine start_ (n := 10) (S := fun w' => w'.cell? ⟨gb247, 0, none⟩ = some (.int .i64 a1_0) ∧ w'.cell? ⟨gb247, 1, none⟩ = some (.string a1_1) ∧ w'.cell? ⟨gb247, 2, none⟩ = some (.int .i64 a1_2) ∧ w'.cell? ⟨gb247, 3, none⟩ = some (.int .i64 a1_3) ∧ w'.cell? ⟨gc20, 0, none⟩ = some (.slice Ao9 l20_0.length co9) ∧ w'.cell? ⟨gc20, 1, none⟩ = some (u9001_)) (ds := []) (tf 0 10) (by kernel_rfl) rfl rfl ⟨(blk_cell BK247.out 0).trans rfl, (blk_cell BK247.out 1).trans rfl, (blk_cell BK247.out 2).trans rfl, (blk_cell BK247.out 3).trans rfl, (blk_cell BK20.out 0).trans rfl, (blk_cell BK20.out 1).trans rfl⟩ (fun hHeld => ?_); refine with_tabW impl_Disk_write.tab2 impl_Disk_write.bits2 (fun HT_ HW_ => ?_)
 generalize w5.drew = w8 at HO20_0 HO20_1 BK20 BK247 HK HB hHeld ⊢
 refine p1_ 0 (some 9) (tf 1 9) HT_.out ?_
 refine p1_ 2 (some 11) #[true, false, true, false, false, false, false, false, false, false] HT_.out ?_
 refine p1_ 3 (some 12) #[true, false, true, true, false, false, false, false, false, false] HT_.out ?_
 refine p1_ 4 (some 13) #[true, false, true, true, true, false, false, false, false, false] HT_.out ?_
 refine take_ (i := 1) (N := some 10) (v := ?_) (a' := ?_) (tf 5 5) rfl rfl (take_ofW HT_.out HW_.out (by kernel_rfl)) (fun _ _ _ h => h) (Or.inl ⟨by rfl, ?_⟩) hHeld ?_ ?_
 rotate_left
 ·rintro w' ⟨s0, s1, s2, s3, s4, s5⟩
  go_simp
  with_reducible rfl
 rotate_left
 ·simp only [Act.put, List.setIfInBounds_toArray, List.set_cons_zero, List.set_cons_succ, i64_w, i32_w]
  rfl
 refine take_ (i := 5) (N := some 14) (v := ?_) (a' := ?_) (tf 6 4) rfl rfl (take_ofW HT_.out HW_.out (by kernel_rfl)) (fun _ _ _ h => h) (Or.inl ⟨by rfl, ?_⟩) hHeld ?_ ?_
 rotate_left
 ·rintro w' ⟨s0, s1, s2, s3, s4, s5⟩
  go_simp
  with_reducible rfl
 rotate_left
 ·simp only [Act.put, List.setIfInBounds_toArray, List.set_cons_zero, List.set_cons_succ, i64_w, i32_w]
  rfl
 refine p1_ 6 (some 15) (tf 7 3) HT_.out ?_
 refine p1_ 7 (some 16) (tf 8 2) HT_.out ?_
 refine one_ (i := 8) (N := some 17) (tf 9 1) rfl rfl (one_of HT_.out (by kernel_rfl)) (by decide) (fun K hK => ?_)
 refine goes_ Try.func176 (by kernel_rfl) rfl #[.int .i64 a1_0, .int .i64 0, .int .i64 (wrap64 ((l20_0.length : Int) - 1))] (by rfl) rfl rfl z2_ ?_
 with_reducible refine (impl_within.calls a1_0 0 (wrap64 ((l20_0.length : Int) - 1)) t248 _ A3.out).mono ?_
 rintro e w' ⟨rfl, ⟨nd, rfl⟩⟩
 refine ⟨_, rfl, ?_⟩
 refine hK.out _ _ ⟨(blk_cell BK247.out 0).trans rfl, (blk_cell BK247.out 1).trans rfl, (blk_cell BK247.out 2).trans rfl, (blk_cell BK247.out 3).trans rfl, (blk_cell BK20.out 0).trans rfl, (blk_cell BK20.out 1).trans rfl⟩ (fun hHeld => ?_)
 clear hK K
 refine norm_ (a' := ?_) ?_ ?_
 rotate_left
 ·show Act.put _ (some 17) _ = _
  simp only [Act.put, List.setIfInBounds_toArray, List.set_cons_zero, List.set_cons_succ, i64_w, i32_w]
  rfl
 refine p1_ 9 (some 8) (tf 10 0) HT_.out ?_
 refine done_ (done_of HT_.out (by kernel_rfl)) ?_
 go_upto_if 8 with (fail)
 have H := HC4.out
 clear HC4
 by_cases c10 : t248 = true
 ·subst c10
  have H1 : (if 0 ≤ a1_0 then (if a1_0 < (l20_0.length : Int) then (some ((l20_0.set (a1_0 : Int).toNat a1_1), l20_1)) else (none)) else (none)) = some (r1, r2) := z90_
  clear H
  have H := H1
  clear H1
  by_cases c11 : 0 ≤ a1_0
  ·rw [if_pos c11] at H
   have c11b0 : decide (0 ≤ a1_0) = true := decide_eq_true c11
   clear c11
   (first | rw [c11b0] | rw [c11b1] | (simp only [i64_w, i32_w]; first | rw [c11b0] | rw [c11b1]) | rw [c11b2] | skip)
   by_cases c12 : a1_0 < (l20_0.length : Int)
   ·rw [if_pos c12] at H
    have c12b0 : decide (a1_0 < (l20_0.length : Int)) = true := decide_eq_true c12
    clear c12
    obtain ⟨y249, hy_⟩ : ∃ y_ : List ByteArray, y_ = (l20_0.set (a1_0 : Int).toNat a1_1) := ⟨_, rfl⟩
    replace H : (some (y249, l20_1)) = some (r1, r2) := z3_
    have Ny249 := q_ hy_
    clear hy_
    simp only [Option.some.injEq, Prod.mk.injEq] at H
    obtain ⟨rfl, rfl⟩ := H
    try go_wp2
    (try (rw [drewN_self w8]; generalize hq_ : World.drewN w8 _ = w8; have n0_ : Aside0 (Kd.R Kd.string 9 w8 w0.heap.size (fun k_ => ((P20_0_ k_ ∨ P20_1_ k_) ∨ w.heap.size ≤ k_)) (.slice Ao9 l20_0.length co9) l20_0) := ⟨by rw [← hq_]; exact z68_⟩; have n1_ : Aside0 (Kd.R k166 166 w8 w0.heap.size (fun k_ => ((P20_0_ k_ ∨ P20_1_ k_) ∨ w.heap.size ≤ k_)) u9001_ l20_1) := ⟨by rw [← hq_]; exact z69_⟩; have n2_ : Aside0 (w8.heap[gc20]? = some (.cells #[.slice Ao9 l20_0.length co9, u9001_] 95 (0, 0))) := ⟨by rw [← hq_]; exact z73_⟩; have n3_ : Aside0 (w8.heap[gb247]? = some (.cells #[.int .i64 a1_0, .string a1_1, .int .i64 a1_2, .int .i64 a1_3] 168 (0, 0))) := ⟨by rw [← hq_]; exact z115_⟩; have n4_ : Aside0 (Kept w w8 (fun k_ => P20_0_ k_ ∨ P20_1_ k_)) := ⟨by rw [← hq_]; exact z44_⟩; have n5_ : Aside0 (Below w0.heap.size w0 w8) := ⟨by rw [← hq_]; exact z51_⟩; clear HO20_0 HO20_1 BK20 BK247 HK HB hq_; have HO20_0 := n0_; have HO20_1 := n1_; have BK20 := n2_; have BK247 := n3_; have HK := n4_; have HB := n5_; clear n0_ n1_ n2_ n3_ n4_ n5_)); obtain ⟨hcq247_0, hcq247_1, hcq247_2, hcq247_3, hfq247_0, hfq247_1, hfq247_2, hfq247_3⟩ := cs4_ BK247.out
    replace HO20_0 := q_ (Kd.R_drew HO20_0.out)
    replace HO20_1 := q_ (Kd.R_drew HO20_1.out)
    replace BK20 := q_ (blk_drew BK20.out)
    replace BK247 := q_ (blk_drew BK247.out)
    replace HK := q_ (Kept.drew HK.out)
    replace HB := q_ (below_drew1 HB.out)
    have p13 : 0 ≤ (a1_0 : Int) := of_decide_eq_true z1_
    have q13 : (a1_0 : Int) < ((l20_0.length : Int) : Int) := of_decide_eq_true z1_
    obtain ⟨go13, co13, eo13, gb13, gl13, cl13, HG13⟩ := Kd.R_form HO20_0.out (by omega)
    (first | cases eo13 | (injection eo13 with ea_ en_ ec_; (first | subst ea_ | (injection ea_ with ea_; subst ea_)); subst ec_; clear en_))
    have GB13 := q_ gb13
    have GG13 := q_ HG13
    clear gb13 gl13 HG13
    have HMgo13 := q_ (show ((P20_0_ go13 ∨ P20_1_ go13) ∨ w.heap.size ≤ go13) from (HO20_0.out.1 _ rfl))
    obtain ⟨hx13_0, hf13_0⟩ := Kd.R_celln (⟨#[]⟩ : ByteArray) HO20_0.out (a1_0 : Int) p13 q13
    replace p13 := eq_true p13
    replace q13 := eq_true q13
    have HP15 := Kd.R_putn HO20_0.out (a1_0 : Int) a1_1
    rw [← Ny249.out] at HP15
    have HQ15 := q_ HP15
    clear HP15
    refine start_ (n := 10) (S := fun w' => w'.cell? ⟨gc20, 0, none⟩ = some (.slice (some ⟨go13, 0, none⟩) l20_0.length co9) ∧ w'.cell? ⟨gc20, 1, none⟩ = some (u9001_) ∧ w'.cell? ⟨gb247, 0, none⟩ = some (.int .i64 a1_0) ∧ w'.cell? ⟨gb247, 1, none⟩ = some (.string a1_1) ∧ w'.cell? ⟨gb247, 2, none⟩ = some (.int .i64 a1_2) ∧ w'.cell? ⟨gb247, 3, none⟩ = some (.int .i64 a1_3)) (ds := [9]) (tf 0 10) (by kernel_rfl) rfl rfl ⟨(blk_cell BK20.out 0).trans rfl, (blk_cell BK20.out 1).trans rfl, (blk_cell BK247.out 0).trans rfl, (blk_cell BK247.out 1).trans rfl, (blk_cell BK247.out 2).trans rfl, (blk_cell BK247.out 3).trans rfl⟩ (fun hHeld => ?_); refine with_tabW impl_Disk_write.tab3 impl_Disk_write.bits3 (fun HT_ HW_ => ?_)
    generalize w8.drew = w14 at HO20_0 HO20_1 BK20 BK247 HK HB GG13 HQ15 hf13_0 hx13_0 hHeld ⊢
    refine p1_ 0 (some 18) (tf 1 9) HT_.out ?_
    refine p1_ 1 (some 19) (tf 2 8) HT_.out ?_
    refine p1_ 2 (some 20) (tf 3 7) HT_.out ?_
    refine p1_ 4 (some 22) #[true, true, true, false, true, false, false, false, false, false] HT_.out ?_
    refine p1_ 6 (some 24) #[true, true, true, false, true, false, true, false, false, false] HT_.out ?_
    refine take_ (i := 3) (N := some 21) (v := ?_) (a' := ?_) #[true, true, true, true, true, false, true, false, false, false] rfl rfl (take_ofW HT_.out HW_.out (by kernel_rfl)) (fun _ _ _ h => h) (Or.inl ⟨by rfl, ?_⟩) hHeld ?_ ?_
    rotate_left
    ·rintro w' ⟨s0, s1, s2, s3, s4, s5⟩
     go_simp
     with_reducible rfl
    rotate_left
    ·simp only [Act.put, List.setIfInBounds_toArray, List.set_cons_zero, List.set_cons_succ, i64_w, i32_w]
     rfl
    refine take_ (i := 5) (N := some 23) (v := ?_) (a' := ?_) (tf 7 3) rfl rfl (take_ofW HT_.out HW_.out (by kernel_rfl)) (fun _ _ _ h => h) (Or.inl ⟨by rfl, ?_⟩) hHeld ?_ ?_
    rotate_left
    ·rintro w' ⟨s0, s1, s2, s3, s4, s5⟩
     go_simp
     with_reducible rfl
    rotate_left
    ·simp only [Act.put, List.setIfInBounds_toArray, List.set_cons_zero, List.set_cons_succ, i64_w, i32_w]
     rfl
    refine take_ (i := 7) (N := some 25) (v := ?_) (a' := ?_) (tf 8 2) rfl rfl (take_ofW HT_.out HW_.out (by kernel_rfl)) (fun _ _ _ h => h) (Or.inl ⟨by rfl, ?_⟩) hHeld ?_ ?_
    rotate_left
    ·rintro w' ⟨s0, s1, s2, s3, s4, s5⟩
     go_simp
     with_reducible rfl
    rotate_left
    ·simp only [Act.put, List.setIfInBounds_toArray, List.set_cons_zero, List.set_cons_succ, i64_w, i32_w]
     rfl
    refine p1_ 8 (some 26) (tf 9 1) HT_.out ?_
    refine last_ (i := 9) (N := none) (tf 10 0) rfl rfl (one_of HT_.out (by kernel_rfl)) (by decide) (fun K hK => ?_)
    refine skip_ (w1 := ?_) (by rfl) rfl ?_ ?_
    rotate_left
    ·go_simp
     rfl
    refine hK.out _ _ ?_
    clear hK K
    refine done_ (done_of HT_.out (by kernel_rfl)) ?_
    try go_wp2
    first | go_end0 | ((try simp only [Exit.inBlock, Exit.then]); refine bodyPost_ret (results_none rfl _ _ _) rfl ?_)
    exact ⟨z4_, by (with_reducible repeat (first | apply Kd.R_alloc | apply Kd.R_drewN | apply Kd.R_drew)); exact HQ15.out, by (with_reducible repeat (first | apply Kd.R_alloc | apply Kd.R_drewN | apply Kd.R_drew)); exact Kd.R_mono (Kd.R_far (p := ⟨go13, (a1_0 : Int).toNat, none⟩) (Kd.R_types HO20_1.out GG13.out (by decide)) (fun _ hk => hk.2) (.string a1_1)) (fun _ hk => hk.1), by repeat (first | (with_reducible first | exact HB.out | apply below_alloc | apply pw_below_drewN | apply below_drew1 | refine below_set ?_ GB13.out | refine below_set ?_ GE20.out | refine below_set ?_ GE247.out) | exact HB.out), by repeat (first | (with_reducible first | exact HK.out | apply Kept.alloc | apply Kept.drewN | apply Kept.drew | refine Kept.setCell ?_ HMgo13.out _ | refine Kept.setCell ?_ (.inr GW20.out) _ | refine Kept.setCell ?_ (.inr GW247.out) _) | exact HK.out)⟩
   ·rw [if_neg c12] at H
    exact absurd H (by simp)
  ·rw [if_neg c11] at H
   exact absurd H (by simp)
 ·replace c10 := Bool.eq_false_iff.mpr c10
  subst c10
  have H1 : (if a1_0 = (-1) then (if (wrap64 ((-1) - a1_0)) < (l20_1.length : Int) then (if 0 ≤ (wrap64 ((-1) - a1_0)) then (some (l20_0, (l20_1.set ((wrap64 ((-1) - a1_0)) : Int).toNat (⟨a1_2, a1_3⟩ : S166)))) else (none)) else (some (l20_0, l20_1))) else (if a1_0 = (-2) then (if (wrap64 ((-1) - a1_0)) < (l20_1.length : Int) then (if 0 ≤ (wrap64 ((-1) - a1_0)) then (some (l20_0, (l20_1.set ((wrap64 ((-1) - a1_0)) : Int).toNat (⟨a1_2, a1_3⟩ : S166)))) else (none)) else (some (l20_0, l20_1))) else (some (l20_0, l20_1)))) = some (r1, r2) := by rw [if_neg (show ¬ (false = true) by decide)] at H; exact H
  clear H
  have H := H1
  clear H1
  by_cases c16 : a1_0 = (-1)
  ·rw [if_pos c16] at H
   have c16b0 : (a1_0 == (-1)) = true := beq_iff_eq.mpr c16
   have c16b1 : (a1_0 != (-1)) = false := bne_eq_false_iff_eq.mpr c16
   clear c16
   have HC17 := q_ H
   clear H
   have hnb18 := NB247_20.out
   have hnc18 := NB20_247.out
   obtain ⟨hcz19_0, hcz19_1, hcz19_2, hcz19_3, hfz19_0, hfz19_1, hfz19_2, hfz19_3⟩ := cs4_ BK247.out
   obtain ⟨hcz20_0, hcz20_1, hfz20_0, hfz20_1⟩ := cs2_ BK20.out
   obtain ⟨Ao21, co21, eo21⟩ := Kd.R_slice HO20_1.out
   subst eo21
   go_upto_if 27 with (fail)
   have H := HC17.out
   clear HC17
   by_cases c22 : (wrap64 ((-1) - a1_0)) < (l20_1.length : Int)
   ·rw [if_pos c22] at H
    have c22b0 : decide ((wrap64 ((-1) - a1_0)) < (l20_1.length : Int)) = true := decide_eq_true c22
    clear c22
    (first | rw [c22b0] | rw [c22b1] | (simp only [i64_w, i32_w]; first | rw [c22b0] | rw [c22b1]) | rw [c22b2] | skip)
    obtain ⟨ji23, hji23⟩ : ∃ j_ : Int, (wrap64 ((-1) - a1_0)) = j_ := ⟨_, rfl⟩
    replace H : (if 0 ≤ (ji23) then (some (l20_0, (l20_1.set ((ji23) : Int).toNat (⟨a1_2, a1_3⟩ : S166)))) else (none)) = some (r1, r2) := z136_
    (try rw [hji23] at c22b0)
    have hji23w : (IntKind.i64.wrap ((-1) - a1_0)) = ji23 := (i64_w _).trans hji23
    by_cases c24 : 0 ≤ (ji23)
    ·rw [if_pos c24] at H
     have c24b0 : decide (0 ≤ (ji23)) = true := decide_eq_true c24
     clear c24
     obtain ⟨y250, hy_⟩ : ∃ y_ : List (S166), y_ = (l20_1.set ((ji23) : Int).toNat (⟨a1_2, a1_3⟩ : S166)) := ⟨_, rfl⟩
     replace H : (some (l20_0, y250)) = some (r1, r2) := z3_
     have Ny250 := q_ hy_
     clear hy_
     simp only [Option.some.injEq, Prod.mk.injEq] at H
     obtain ⟨rfl, rfl⟩ := H
     try go_wp2
     (try (rw [drewN_self w8]; generalize hq_ : World.drewN w8 _ = w8; have n0_ : Aside0 (Kd.R Kd.string 9 w8 w0.heap.size (fun k_ => ((P20_0_ k_ ∨ P20_1_ k_) ∨ w.heap.size ≤ k_)) (.slice Ao9 l20_0.length co9) l20_0) := ⟨by rw [← hq_]; exact z68_⟩; have n1_ : Aside0 (Kd.R k166 166 w8 w0.heap.size (fun k_ => ((P20_0_ k_ ∨ P20_1_ k_) ∨ w.heap.size ≤ k_)) (.slice Ao21 l20_1.length co21) l20_1) := ⟨by rw [← hq_]; exact z69_⟩; have n2_ : Aside0 (w8.heap[gc20]? = some (.cells #[.slice Ao9 l20_0.length co9, .slice Ao21 l20_1.length co21] 95 (0, 0))) := ⟨by rw [← hq_]; exact z73_⟩; have n3_ : Aside0 (w8.heap[gb247]? = some (.cells #[.int .i64 a1_0, .string a1_1, .int .i64 a1_2, .int .i64 a1_3] 168 (0, 0))) := ⟨by rw [← hq_]; exact z115_⟩; have n4_ : Aside0 (Kept w w8 (fun k_ => P20_0_ k_ ∨ P20_1_ k_)) := ⟨by rw [← hq_]; exact z44_⟩; have n5_ : Aside0 (Below w0.heap.size w0 w8) := ⟨by rw [← hq_]; exact z51_⟩; clear HO20_0 HO20_1 BK20 BK247 HK HB hq_; have HO20_0 := n0_; have HO20_1 := n1_; have BK20 := n2_; have BK247 := n3_; have HK := n4_; have HB := n5_; clear n0_ n1_ n2_ n3_ n4_ n5_)); obtain ⟨hcq247_0, hcq247_1, hcq247_2, hcq247_3, hfq247_0, hfq247_1, hfq247_2, hfq247_3⟩ := cs4_ BK247.out
     replace HO20_0 := q_ (Kd.R_drew HO20_0.out)
     replace HO20_1 := q_ (Kd.R_drew HO20_1.out)
     replace BK20 := q_ (blk_drew BK20.out)
     replace BK247 := q_ (blk_drew BK247.out)
     replace HK := q_ (Kept.drew HK.out)
     replace HB := q_ (below_drew1 HB.out)
     have p25 : 0 ≤ ((ji23) : Int) := of_decide_eq_true z1_
     have q25 : ((ji23) : Int) < ((l20_1.length : Int) : Int) := of_decide_eq_true z1_
     obtain ⟨go25, co25, eo25, gb25, gl25, cl25, HG25⟩ := Kd.R_form HO20_1.out (by omega)
     (first | cases eo25 | (injection eo25 with ea_ en_ ec_; (first | subst ea_ | (injection ea_ with ea_; subst ea_)); subst ec_; clear en_))
     have GB25 := q_ gb25
     have GG25 := q_ HG25
     clear gb25 gl25 HG25
     have HMgo25 := q_ (show ((P20_0_ go25 ∨ P20_1_ go25) ∨ w.heap.size ≤ go25) from (HO20_1.out.1 _ rfl))
     obtain ⟨ce25, hcl25, hM25, hcc25, hfr25⟩ := Kd.R_elem HO20_1.out z166 ((ji23) : Int) p25 q25
     obtain rfl := k166_openM hM25
     have hx25_0 : World.cell? _ ⟨go25, ((ji23) : Int).toNat * 2, none⟩ = some (.int .i64 ((rd_T166 l20_1 (ji23)).f0)) := hcc25 0 _ rfl
     have hx25_1 : World.cell? _ ⟨go25, ((ji23) : Int).toNat * 2 + 1, none⟩ = some (.int .i64 ((rd_T166 l20_1 (ji23)).f1)) := hcc25 1 _ rfl
     have hf25_0 : World.frozen? _ ⟨go25, ((ji23) : Int).toNat * 2, none⟩ = false := hfr25 0
     have hf25_1 : World.frozen? _ ⟨go25, ((ji23) : Int).toNat * 2 + 1, none⟩ = false := hfr25 1
     clear hcl25 hcc25 hfr25 hM25
     replace p25 := eq_true p25
     replace q25 := eq_true q25
     obtain ⟨ce27, hcl27, hM27, hcc27, hfr27⟩ := Kd.R_elem HO20_1.out z166 ((ji23) : Int) (of_decide_eq_true z1_) z156_
     obtain rfl := k166_openM hM27
     have HP27 := (Kd.R_seg HO20_1.out ((ji23) : Int) (of_decide_eq_true z1_) z156_ (seg := [.int .i64 a1_2, .int .i64 a1_3]) (j := 0) hcl27 hcc27 (show 2 ≤ 2 from by decide) (x' := (⟨a1_2, a1_3⟩ : S166)) (k166_mkM _ _ _ (⟨a1_2, a1_3⟩ : S166) ) (fun _ hk => hk)).1
     rw [← Ny250.out] at HP27
     have HQ27 := q_ HP27
     clear hcl27 hcc27 hfr27 hM27 HP27
     refine start_ (n := 9) (S := fun w' => w'.cell? ⟨gc20, 0, none⟩ = some (.slice Ao9 l20_0.length co9) ∧ w'.cell? ⟨gc20, 1, none⟩ = some (.slice (some ⟨go25, 0, none⟩) l20_1.length co21) ∧ w'.cell? ⟨gb247, 0, none⟩ = some (.int .i64 a1_0) ∧ w'.cell? ⟨gb247, 1, none⟩ = some (.string a1_1) ∧ w'.cell? ⟨gb247, 2, none⟩ = some (.int .i64 a1_2) ∧ w'.cell? ⟨gb247, 3, none⟩ = some (.int .i64 a1_3)) (ds := [8]) (tf 0 9) (by kernel_rfl) rfl rfl ⟨(blk_cell BK20.out 0).trans rfl, (blk_cell BK20.out 1).trans rfl, (blk_cell BK247.out 0).trans rfl, (blk_cell BK247.out 1).trans rfl, (blk_cell BK247.out 2).trans rfl, (blk_cell BK247.out 3).trans rfl⟩ (fun hHeld => ?_); refine with_tabW impl_Disk_write.tab5 impl_Disk_write.bits5 (fun HT_ HW_ => ?_)
     generalize w8.drew = w26 at HO20_0 HO20_1 BK20 BK247 HK HB GG25 HQ27 hf25_0 hf25_1 hx25_0 hx25_1 hHeld ⊢
     refine p1_ 0 (some 45) (tf 1 8) HT_.out ?_
     refine p1_ 1 (some 46) (tf 2 7) HT_.out ?_
     refine p1_ 2 (some 47) (tf 3 6) HT_.out ?_
     refine p1_ 4 (some 49) #[true, true, true, false, true, false, false, false, false] HT_.out ?_
     refine p1_ 5 (some 50) #[true, true, true, false, true, true, false, false, false] HT_.out ?_
     refine take_ (i := 3) (N := some 48) (v := ?_) (a' := ?_) (tf 6 3) rfl rfl (take_ofW HT_.out HW_.out (by kernel_rfl)) (fun _ _ _ h => h) (Or.inl ⟨by rfl, ?_⟩) hHeld ?_ ?_
     rotate_left
     ·rintro w' ⟨s0, s1, s2, s3, s4, s5⟩
      go_simp
      with_reducible rfl
     rotate_left
     ·simp only [Act.put, List.setIfInBounds_toArray, List.set_cons_zero, List.set_cons_succ, i64_w, i32_w]
      rfl
     refine take_ (i := 6) (N := some 51) (v := ?_) (a' := ?_) (tf 7 2) rfl rfl (take_ofW HT_.out HW_.out (by kernel_rfl)) (fun _ _ _ h => h) (Or.inl ⟨by rfl, ?_⟩) hHeld ?_ ?_
     rotate_left
     ·rintro w' ⟨s0, s1, s2, s3, s4, s5⟩
      go_simp
      with_reducible rfl
     rotate_left
     ·simp only [Act.put, List.setIfInBounds_toArray, List.set_cons_zero, List.set_cons_succ, i64_w, i32_w]
      rfl
     refine p1_ 7 (some 52) (tf 8 1) HT_.out ?_
     refine last_ (i := 8) (N := none) (tf 9 0) rfl rfl (one_of HT_.out (by kernel_rfl)) (by decide) (fun K hK => ?_)
     refine skip_ (w1 := ?_) (by rfl) rfl ?_ ?_
     rotate_left
     ·go_simp
      rfl
     refine hK.out _ _ ?_
     clear hK K
     refine done_ (done_of HT_.out (by kernel_rfl)) ?_
     try go_wp2
     first | go_end0 | ((try simp only [Exit.inBlock, Exit.then]); refine bodyPost_ret (results_none rfl _ _ _) rfl ?_)
     exact ⟨by first | rfl | (simp [errW_none, errW_some] <;> rfl) | (simp only [← hji23]; first | rfl | (simp [errW_none, errW_some] <;> rfl)) | (simp [*, errW_none, errW_some] <;> rfl), by (with_reducible repeat (first | apply Kd.R_alloc | apply Kd.R_drewN | apply Kd.R_drew)); exact Kd.R_mono (Kd.R_far (p := ⟨go25, ((ji23) : Int).toNat * 2 + 1, none⟩) (Kd.R_far (p := ⟨go25, ((ji23) : Int).toNat * 2, none⟩) (Kd.R_types HO20_0.out GG25.out (by decide)) (fun _ hk => hk.2) (.int .i64 a1_2)) (fun _ hk => hk.2) (.int .i64 a1_3)) (fun _ hk => hk.1), by (with_reducible repeat (first | apply Kd.R_alloc | apply Kd.R_drewN | apply Kd.R_drew)); exact HQ27.out, by repeat (first | (with_reducible first | exact HB.out | apply below_alloc | apply pw_below_drewN | apply below_drew1 | refine below_set ?_ GB25.out | refine below_set ?_ GB25.out | refine below_set ?_ GE20.out | refine below_set ?_ GE247.out) | exact HB.out), by repeat (first | (with_reducible first | exact HK.out | apply Kept.alloc | apply Kept.drewN | apply Kept.drew | refine Kept.setCell ?_ HMgo25.out _ | refine Kept.setCell ?_ HMgo25.out _ | refine Kept.setCell ?_ (.inr GW20.out) _ | refine Kept.setCell ?_ (.inr GW247.out) _) | exact HK.out)⟩
    ·rw [if_neg c24] at H
     exact absurd H (by simp)
   ·rw [if_neg c22] at H
    have c22b0 : decide ((wrap64 ((-1) - a1_0)) < (l20_1.length : Int)) = false := decide_eq_false c22
    clear c22
    (first | rw [c22b0] | rw [c22b1] | (simp only [i64_w, i32_w]; first | rw [c22b0] | rw [c22b1]) | rw [c22b2] | skip)
    simp only [Option.some.injEq, Prod.mk.injEq] at H
    obtain ⟨rfl, rfl⟩ := H
    go_wp2
    first | go_end0 | ((try simp only [Exit.inBlock, Exit.then]); refine bodyPost_ret (results_none rfl _ _ _) rfl ?_)
    exact ⟨z4_, z68_, z69_, z51_, z44_⟩
  ·rw [if_neg c16] at H
   have c16b0 : (a1_0 == (-1)) = false := beq_eq_false_iff_ne.mpr c16
   have c16b1 : (a1_0 != (-1)) = true := bne_iff_ne.mpr c16
   by_cases c28 : a1_0 = (-2)
   ·rw [if_pos c28] at H
    have c28b0 : (a1_0 == (-2)) = true := beq_iff_eq.mpr c28
    have c28b1 : (a1_0 != (-2)) = false := bne_eq_false_iff_eq.mpr c28
    clear c28
    have HC29 := q_ H
    clear H
    have hnb30 := NB247_20.out
    have hnc30 := NB20_247.out
    obtain ⟨hcz31_0, hcz31_1, hcz31_2, hcz31_3, hfz31_0, hfz31_1, hfz31_2, hfz31_3⟩ := cs4_ BK247.out
    obtain ⟨hcz32_0, hcz32_1, hfz32_0, hfz32_1⟩ := cs2_ BK20.out
    obtain ⟨Ao33, co33, eo33⟩ := Kd.R_slice HO20_1.out
    subst eo33
    go_upto_if 27 with (fail)
    have H := HC29.out
    clear HC29
    by_cases c34 : (wrap64 ((-1) - a1_0)) < (l20_1.length : Int)
    ·rw [if_pos c34] at H
     have c34b0 : decide ((wrap64 ((-1) - a1_0)) < (l20_1.length : Int)) = true := decide_eq_true c34
     clear c34
     (first | rw [c34b0] | rw [c34b1] | (simp only [i64_w, i32_w]; first | rw [c34b0] | rw [c34b1]) | rw [c34b2] | skip)
     obtain ⟨ji35, hji35⟩ : ∃ j_ : Int, (wrap64 ((-1) - a1_0)) = j_ := ⟨_, rfl⟩
     replace H : (if 0 ≤ (ji35) then (some (l20_0, (l20_1.set ((ji35) : Int).toNat (⟨a1_2, a1_3⟩ : S166)))) else (none)) = some (r1, r2) := by first | (rw [hji35] at H; exact H) | (simp only [hji35] at H ⊢; exact H)
     (try rw [hji35] at c34b0)
     (try rw [hji35] at hji23)
     (try rw [hji35] at hji23w)
     have hji35w : (IntKind.i64.wrap ((-1) - a1_0)) = ji35 := (i64_w _).trans hji35
     by_cases c36 : 0 ≤ (ji35)
     ·rw [if_pos c36] at H
      have c36b0 : decide (0 ≤ (ji35)) = true := decide_eq_true c36
      clear c36
      obtain ⟨y251, hy_⟩ : ∃ y_ : List (S166), y_ = (l20_1.set ((ji35) : Int).toNat (⟨a1_2, a1_3⟩ : S166)) := ⟨_, rfl⟩
      replace H : (some (l20_0, y251)) = some (r1, r2) := z3_
      have Ny251 := q_ hy_
      clear hy_
      simp only [Option.some.injEq, Prod.mk.injEq] at H
      obtain ⟨rfl, rfl⟩ := H
      try go_wp2
      (try (rw [drewN_self w8]; generalize hq_ : World.drewN w8 _ = w8; have n0_ : Aside0 (Kd.R Kd.string 9 w8 w0.heap.size (fun k_ => ((P20_0_ k_ ∨ P20_1_ k_) ∨ w.heap.size ≤ k_)) (.slice Ao9 l20_0.length co9) l20_0) := ⟨by rw [← hq_]; exact z68_⟩; have n1_ : Aside0 (Kd.R k166 166 w8 w0.heap.size (fun k_ => ((P20_0_ k_ ∨ P20_1_ k_) ∨ w.heap.size ≤ k_)) (.slice Ao33 l20_1.length co33) l20_1) := ⟨by rw [← hq_]; exact z69_⟩; have n2_ : Aside0 (w8.heap[gc20]? = some (.cells #[.slice Ao9 l20_0.length co9, .slice Ao33 l20_1.length co33] 95 (0, 0))) := ⟨by rw [← hq_]; exact z73_⟩; have n3_ : Aside0 (w8.heap[gb247]? = some (.cells #[.int .i64 a1_0, .string a1_1, .int .i64 a1_2, .int .i64 a1_3] 168 (0, 0))) := ⟨by rw [← hq_]; exact z115_⟩; have n4_ : Aside0 (Kept w w8 (fun k_ => P20_0_ k_ ∨ P20_1_ k_)) := ⟨by rw [← hq_]; exact z44_⟩; have n5_ : Aside0 (Below w0.heap.size w0 w8) := ⟨by rw [← hq_]; exact z51_⟩; clear HO20_0 HO20_1 BK20 BK247 HK HB hq_; have HO20_0 := n0_; have HO20_1 := n1_; have BK20 := n2_; have BK247 := n3_; have HK := n4_; have HB := n5_; clear n0_ n1_ n2_ n3_ n4_ n5_)); obtain ⟨hcq247_0, hcq247_1, hcq247_2, hcq247_3, hfq247_0, hfq247_1, hfq247_2, hfq247_3⟩ := cs4_ BK247.out
      replace HO20_0 := q_ (Kd.R_drew HO20_0.out)
      replace HO20_1 := q_ (Kd.R_drew HO20_1.out)
      replace BK20 := q_ (blk_drew BK20.out)
      replace BK247 := q_ (blk_drew BK247.out)
      replace HK := q_ (Kept.drew HK.out)
      replace HB := q_ (below_drew1 HB.out)
      have p37 : 0 ≤ ((ji35) : Int) := of_decide_eq_true z1_
      have q37 : ((ji35) : Int) < ((l20_1.length : Int) : Int) := of_decide_eq_true z1_
      obtain ⟨go37, co37, eo37, gb37, gl37, cl37, HG37⟩ := Kd.R_form HO20_1.out (by omega)
      (first | cases eo37 | (injection eo37 with ea_ en_ ec_; (first | subst ea_ | (injection ea_ with ea_; subst ea_)); subst ec_; clear en_))
      have GB37 := q_ gb37
      have GG37 := q_ HG37
      clear gb37 gl37 HG37
      have HMgo37 := q_ (show ((P20_0_ go37 ∨ P20_1_ go37) ∨ w.heap.size ≤ go37) from (HO20_1.out.1 _ rfl))
      obtain ⟨ce37, hcl37, hM37, hcc37, hfr37⟩ := Kd.R_elem HO20_1.out z166 ((ji35) : Int) p37 q37
      obtain rfl := k166_openM hM37
      have hx37_0 : World.cell? _ ⟨go37, ((ji35) : Int).toNat * 2, none⟩ = some (.int .i64 ((rd_T166 l20_1 (ji35)).f0)) := hcc37 0 _ rfl
      have hx37_1 : World.cell? _ ⟨go37, ((ji35) : Int).toNat * 2 + 1, none⟩ = some (.int .i64 ((rd_T166 l20_1 (ji35)).f1)) := hcc37 1 _ rfl
      have hf37_0 : World.frozen? _ ⟨go37, ((ji35) : Int).toNat * 2, none⟩ = false := hfr37 0
      have hf37_1 : World.frozen? _ ⟨go37, ((ji35) : Int).toNat * 2 + 1, none⟩ = false := hfr37 1
      clear hcl37 hcc37 hfr37 hM37
      replace p37 := eq_true p37
      replace q37 := eq_true q37
      obtain ⟨ce39, hcl39, hM39, hcc39, hfr39⟩ := Kd.R_elem HO20_1.out z166 ((ji35) : Int) (of_decide_eq_true z1_) z157_
      obtain rfl := k166_openM hM39
      have HP39 := (Kd.R_seg HO20_1.out ((ji35) : Int) (of_decide_eq_true z1_) z157_ (seg := [.int .i64 a1_2, .int .i64 a1_3]) (j := 0) hcl39 hcc39 (show 2 ≤ 2 from by decide) (x' := (⟨a1_2, a1_3⟩ : S166)) (k166_mkM _ _ _ (⟨a1_2, a1_3⟩ : S166) ) (fun _ hk => hk)).1
      rw [← Ny251.out] at HP39
      have HQ39 := q_ HP39
      clear hcl39 hcc39 hfr39 hM39 HP39
      refine start_ (n := 9) (S := fun w' => w'.cell? ⟨gc20, 0, none⟩ = some (.slice Ao9 l20_0.length co9) ∧ w'.cell? ⟨gc20, 1, none⟩ = some (.slice (some ⟨go37, 0, none⟩) l20_1.length co33) ∧ w'.cell? ⟨gb247, 0, none⟩ = some (.int .i64 a1_0) ∧ w'.cell? ⟨gb247, 1, none⟩ = some (.string a1_1) ∧ w'.cell? ⟨gb247, 2, none⟩ = some (.int .i64 a1_2) ∧ w'.cell? ⟨gb247, 3, none⟩ = some (.int .i64 a1_3)) (ds := [8]) (tf 0 9) (by kernel_rfl) rfl rfl ⟨(blk_cell BK20.out 0).trans rfl, (blk_cell BK20.out 1).trans rfl, (blk_cell BK247.out 0).trans rfl, (blk_cell BK247.out 1).trans rfl, (blk_cell BK247.out 2).trans rfl, (blk_cell BK247.out 3).trans rfl⟩ (fun hHeld => ?_); refine with_tabW impl_Disk_write.tab5 impl_Disk_write.bits5 (fun HT_ HW_ => ?_)
      generalize w8.drew = w38 at HO20_0 HO20_1 BK20 BK247 HK HB GG37 HQ39 hf37_0 hf37_1 hx37_0 hx37_1 hHeld ⊢
      refine p1_ 0 (some 45) (tf 1 8) HT_.out ?_
      refine p1_ 1 (some 46) (tf 2 7) HT_.out ?_
      refine p1_ 2 (some 47) (tf 3 6) HT_.out ?_
      refine p1_ 4 (some 49) #[true, true, true, false, true, false, false, false, false] HT_.out ?_
      refine p1_ 5 (some 50) #[true, true, true, false, true, true, false, false, false] HT_.out ?_
      refine take_ (i := 3) (N := some 48) (v := ?_) (a' := ?_) (tf 6 3) rfl rfl (take_ofW HT_.out HW_.out (by kernel_rfl)) (fun _ _ _ h => h) (Or.inl ⟨by rfl, ?_⟩) hHeld ?_ ?_
      rotate_left
      ·rintro w' ⟨s0, s1, s2, s3, s4, s5⟩
       go_simp
       with_reducible rfl
      rotate_left
      ·simp only [Act.put, List.setIfInBounds_toArray, List.set_cons_zero, List.set_cons_succ, i64_w, i32_w]
       rfl
      refine take_ (i := 6) (N := some 51) (v := ?_) (a' := ?_) (tf 7 2) rfl rfl (take_ofW HT_.out HW_.out (by kernel_rfl)) (fun _ _ _ h => h) (Or.inl ⟨by rfl, ?_⟩) hHeld ?_ ?_
      rotate_left
      ·rintro w' ⟨s0, s1, s2, s3, s4, s5⟩
       go_simp
       with_reducible rfl
      rotate_left
      ·simp only [Act.put, List.setIfInBounds_toArray, List.set_cons_zero, List.set_cons_succ, i64_w, i32_w]
       rfl
      refine p1_ 7 (some 52) (tf 8 1) HT_.out ?_
      refine last_ (i := 8) (N := none) (tf 9 0) rfl rfl (one_of HT_.out (by kernel_rfl)) (by decide) (fun K hK => ?_)
      refine skip_ (w1 := ?_) (by rfl) rfl ?_ ?_
      rotate_left
      ·go_simp
       rfl
      refine hK.out _ _ ?_
      clear hK K
      refine done_ (done_of HT_.out (by kernel_rfl)) ?_
      try go_wp2
      first | go_end0 | ((try simp only [Exit.inBlock, Exit.then]); refine bodyPost_ret (results_none rfl _ _ _) rfl ?_)
      exact ⟨by first | rfl | (simp [errW_none, errW_some] <;> rfl) | (simp only [← hji35]; first | rfl | (simp [errW_none, errW_some] <;> rfl)) | (simp [*, errW_none, errW_some] <;> rfl), by (with_reducible repeat (first | apply Kd.R_alloc | apply Kd.R_drewN | apply Kd.R_drew)); exact Kd.R_mono (Kd.R_far (p := ⟨go37, ((ji35) : Int).toNat * 2 + 1, none⟩) (Kd.R_far (p := ⟨go37, ((ji35) : Int).toNat * 2, none⟩) (Kd.R_types HO20_0.out GG37.out (by decide)) (fun _ hk => hk.2) (.int .i64 a1_2)) (fun _ hk => hk.2) (.int .i64 a1_3)) (fun _ hk => hk.1), by (with_reducible repeat (first | apply Kd.R_alloc | apply Kd.R_drewN | apply Kd.R_drew)); exact HQ39.out, by repeat (first | (with_reducible first | exact HB.out | apply below_alloc | apply pw_below_drewN | apply below_drew1 | refine below_set ?_ GB37.out | refine below_set ?_ GB37.out | refine below_set ?_ GE20.out | refine below_set ?_ GE247.out) | exact HB.out), by repeat (first | (with_reducible first | exact HK.out | apply Kept.alloc | apply Kept.drewN | apply Kept.drew | refine Kept.setCell ?_ HMgo37.out _ | refine Kept.setCell ?_ HMgo37.out _ | refine Kept.setCell ?_ (.inr GW20.out) _ | refine Kept.setCell ?_ (.inr GW247.out) _) | exact HK.out)⟩
     ·rw [if_neg c36] at H
      exact absurd H (by simp)
    ·rw [if_neg c34] at H
     have c34b0 : decide ((wrap64 ((-1) - a1_0)) < (l20_1.length : Int)) = false := decide_eq_false c34
     clear c34
     (first | rw [c34b0] | rw [c34b1] | (simp only [i64_w, i32_w]; first | rw [c34b0] | rw [c34b1]) | rw [c34b2] | skip)
     simp only [Option.some.injEq, Prod.mk.injEq] at H
     obtain ⟨rfl, rfl⟩ := H
     go_wp2
     first | go_end0 | ((try simp only [Exit.inBlock, Exit.then]); refine bodyPost_ret (results_none rfl _ _ _) rfl ?_)
     exact ⟨z4_, z68_, z69_, z51_, z44_⟩
   ·rw [if_neg c28] at H
    have c28b0 : (a1_0 == (-2)) = false := beq_eq_false_iff_ne.mpr c28
    have c28b1 : (a1_0 != (-2)) = true := bne_iff_ne.mpr c28
    simp only [Option.some.injEq, Prod.mk.injEq] at H
    obtain ⟨rfl, rfl⟩ := H
    have hnb40 := NB247_20.out
    have hnc40 := NB20_247.out
    obtain ⟨hcz41_0, hcz41_1, hcz41_2, hcz41_3, hfz41_0, hfz41_1, hfz41_2, hfz41_3⟩ := cs4_ BK247.out
    go_wp2
    first | go_end0 | ((try simp only [Exit.inBlock, Exit.then]); refine bodyPost_ret (results_none rfl _ _ _) rfl ?_)
    exact ⟨z4_, z68_, z69_, z51_, z44_⟩

/-! ### impl_Some: function 83 -/
def impl_Some.l0 : Nat → List Bool → List (S168) → Int → Int → List ByteArray → List (S166) → Option (List ByteArray × (List (S166)))
 | 0, _, _, _, _, _, _ => none
 | k + 1, x2, x12, x13, x14, x261000, x261001 => if x14 < x13 then (if 0 ≤ x14 then (if x14 < (x12.length : Int) then (if x14 < (x2.length : Int) then (if rdOf false x2 x14 = true then ((impl_Disk_write.f x261000 x261001 ((rd_T168 x12 x14).f0) ((rd_T168 x12 x14).f1) ((rd_T168 x12 x14).f2.f0) ((rd_T168 x12 x14).f2.f1)).bind fun bt264 => (impl_Some.l0 k x2 x12 x13 (wrap64 (x14 + 1)) bt264.1 bt264.2)) else (impl_Some.l0 k x2 x12 x13 (wrap64 (x14 + 1)) x261000 x261001)) else (impl_Some.l0 k x2 x12 x13 (wrap64 (x14 + 1)) x261000 x261001)) else (none)) else (none)) else (some (x261000, x261001))
def impl_Some.f (k : Nat) (l0_0 : List ByteArray) (l0_1 : List (S166)) (l1 : List (S168)) (l2 : List Bool) : Option (List ByteArray × (List (S166))) := (impl_copyDisk.f l0_0 l0_1).bind fun bt254 => (impl_Some.l0 k l2 l1 (l1.length : Int) 0 bt254.1 bt254.2)
theorem impl_Some.mono_l : ∀ k, (∀ y0 y1 y2 y3 y4 y5, LeO (impl_Some.l0 k y0 y1 y2 y3 y4 y5) (impl_Some.l0 (k + 1) y0 y1 y2 y3 y4 y5))
 | 0 => fun _ _ _ _ _ _ r h => by simp [impl_Some.l0] at h
 | k + 1 => by
  have ih0 := impl_Some.mono_l k
  ·intro y0 y1 y2 y3 y4 y5
   unfold impl_Some.l0
   repeat' first
   | (with_reducible exact ih0 _ _ _ _ _ _)
   | (with_reducible exact LeO.refl _)
   | (with_reducible exact LeO.none _)
   | (with_reducible refine LeO.ite ?_ ?_)
   | (with_reducible refine LeO.bind ?_ (fun _ => ?_))
   | exact ih0 _ _ _ _ _ _
   | exact LeO.none _
   | refine LeO.ite ?_ ?_
   | refine LeO.bind ?_ (fun _ => ?_)
theorem impl_Some.mono : ∀ a0 a1 a2 a3 k, LeO (impl_Some.f k a0 a1 a2 a3) (impl_Some.f (k + 1) a0 a1 a2 a3) := by
 intro a0 a1 a2 a3 k
 have ih0 := impl_Some.mono_l k
 unfold impl_Some.f
 repeat' first
   | (with_reducible exact ih0 _ _ _ _ _ _)
   | (with_reducible exact LeO.refl _)
   | (with_reducible exact LeO.none _)
   | (with_reducible refine LeO.ite ?_ ?_)
   | (with_reducible refine LeO.bind ?_ (fun _ => ?_))
   | exact ih0 _ _ _ _ _ _
   | exact LeO.none _
   | refine LeO.ite ?_ ?_
   | refine LeO.bind ?_ (fun _ => ?_)
set_option maxHeartbeats 8000000 in
set_option maxRecDepth 100000 in
theorem impl_Some.calls (k : Nat) (A0_0 : Option Addr) (c0_0 : Nat) (l0_0 : List ByteArray) (A0_1 : Option Addr) (c0_1 : Nat) (l0_1 : List (S166)) (A1 : Option Addr) (c1 : Nat) (l1 : List (S168)) (A2 : Option Addr) (c2 : Nat) (l2 : List Bool) (r1 : List ByteArray) (r2 : List (S166)) (w : World) (hr0_0 : Kd.C Kd.string w A0_0 l0_0.length l0_0) (hc0_0 : l0_0.length ≤ c0_0) (hr0_1 : Kd.C k166 w A0_1 l0_1.length l0_1) (hc0_1 : l0_1.length ≤ c0_1) (hr1 : Kd.C k168 w A1 l1.length l1) (hc1 : l1.length ≤ c1) (hr2 : Kd.C Kd.bool w A2 l2.length l2) (hc2 : l2.length ≤ c2) (h : impl_Some.f k l0_0 l0_1 l1 l2 = some (r1, r2)) :
  Calls Try.prog 83 #[.agg #[.slice A0_0 l0_0.length c0_0, .slice A0_1 l0_1.length c0_1], .slice A1 l1.length c1, .slice A2 l2.length c2] w fun e w' => ∃ v0_ v1_ : Value, e = .returned (.agg #[v0_, v1_]) ∧ Kd.R Kd.string 9 w' w.heap.size (fun _ => True) v0_ r1 ∧ Kd.R k166 166 w' w.heap.size (fun _ => True) v1_ r2 ∧ Below w.heap.size w w' := by
 have hu95 := Try.underlying95
 have hu168 := Try.underlying168
 have HR0_0 := q_ hr0_0
 have HC0_0 := q_ hc0_0
 clear hr0_0 hc0_0
 have HR0_1 := q_ hr0_1
 have HC0_1 := q_ hc0_1
 clear hr0_1 hc0_1
 have HR1 := q_ hr1
 have HC1 := q_ hc1
 clear hr1 hc1
 have HR2 := q_ hr2
 have HC2 := q_ hc2
 clear hr2 hc2
 have HB := q_ (Below.refl w.heap.size w)
 have H : ((impl_copyDisk.f l0_0 l0_1).bind fun bt254 => (impl_Some.l0 k l2 l1 (l1.length : Int) 0 bt254.1 bt254.2)) = some (r1, r2) := h
 clear h
 replace H := Option.bind_eq_some_iff.mp H
 obtain ⟨⟨t254, t257⟩, A40, H⟩ := H
 replace H : (impl_Some.l0 k l2 l1 (l1.length : Int) 0 t254 t257) = some (r1, r2) := H
 have A4 := q_ A40
 clear A40
 have H' := q_ H
 clear H
 go_enter Try.func83, Try.ntmps83
 go_wp2_with (first | ((with_reducible refine gate_dst (N := 3) rfl ?_); refine box_event ?hg (N := 3) ?hd (cs := #[.slice A0_0 l0_0.length c0_0, .slice A0_1 l0_1.length c0_1]) (t := 95) ?hr ?_; (case hd => rfl); (case hg => rfl); (case hr => exact z177_); intro gb252 hg w5 hbox hb; have BK252 := q_ (hbox); have GW252 := q_ ((z141_ : w.heap.size ≤ gb252)); have GE252 := q_ ((z141_ : w.heap.size ≤ gb252)); replace HB := q_ (below_step z0_ hb); clear hb hbox hg) | ((with_reducible refine gate_dst (N := 6) rfl ?_); refine box_event ?hg (N := 6) ?hd (cs := #[.slice none 0 0, .slice none 0 0]) (t := 95) ?hr ?_; (case hd => rfl); (case hg => rfl); (case hr => exact z177_); intro gb253 hg w6 hbox hb; have BK253 := q_ (hbox); have GW253 := q_ ((by rw [hg]; exact (below_size z101_) : w.heap.size ≤ gb253)); have GE253 := q_ ((by rw [hg]; exact (below_size z101_) : w.heap.size ≤ gb253)); replace HB := q_ (below_step z101_ hb); have NB252_253 := q_ ((by rw [hg]; exact Nat.ne_of_lt (blk_lt (g := gb252) (o := .cells #[.slice A0_0 l0_0.length c0_0, .slice A0_1 l0_1.length c0_1] 95 (0, 0)) z116_) : gb252 ≠ gb253)); have NB253_252 := q_ ((by rw [hg]; exact Nat.ne_of_gt (blk_lt (g := gb252) (o := .cells #[.slice A0_0 l0_0.length c0_0, .slice A0_1 l0_1.length c0_1] 95 (0, 0)) z116_) : gb253 ≠ gb252)); replace BK252 := q_ (blk_below (g := gb252) (o := .cells #[.slice A0_0 l0_0.length c0_0, .slice A0_1 l0_1.length c0_1] 95 (0, 0)) z116_ hb); clear hb hbox hg; have hnb7 := NB252_253.out; have hnc7 := NB253_252.out; obtain ⟨hcz8_0, hcz8_1, hfz8_0, hfz8_1⟩ := cs2_ BK252.out) | ((with_reducible refine gate_callee (f := 149) rfl ?_); refine goesL_ (some 11) rfl rfl Try.func149 (by kernel_rfl) rfl #[.agg #[.slice A0_0 l0_0.length c0_0, .slice A0_1 l0_1.length c0_1]] rfl z2_ ?_; (with_reducible refine (impl_copyDisk.calls _ _ l0_0 _ _ l0_1 t254 t257 _ ?side1 ?side2 ?side3 ?side4 A4.out).mono ?_); (case side1 => exact z178_); (case side2 => exact HC0_0.out); (case side3 => exact z179_); (case side4 => exact HC0_1.out); rintro e w9 ⟨v255, v258, rfl, ho0, ho1, hb⟩; refine ⟨_, rfl, ?_⟩; have HO256 := q_ (Kd.R_lower ho0 (below_size z54_)); have HO259 := q_ (Kd.R_lower ho1 (below_size z54_)); replace BK253 := q_ (blk_below (g := gb253) (o := .cells #[.slice none 0 0, .slice none 0 0] 95 (0, 0)) z30_ hb); replace HB := q_ (below_step z54_ hb); (try clear hb); (try clear hb2); (try clear hk); (try clear hi); (try clear ho0); (try clear ho1)) | ((with_reducible refine gate_dst (N := 7) rfl ?_); refine box_event ?hg (N := 7) ?hd (cs := #[.slice none 0 0, .slice none 0 0]) (t := 95) ?hr ?_; (case hd => rfl); (case hg => rfl); (case hr => exact z177_); intro gb260 hg w10 hbox hb; replace HO256 := q_ (Kd.R_below (by (with_reducible repeat (first | apply Kd.R_alloc | apply Kd.R_drewN | apply Kd.R_drew)); exact HO256.out) hb); replace HO259 := q_ (Kd.R_below (by (with_reducible repeat (first | apply Kd.R_alloc | apply Kd.R_drewN | apply Kd.R_drew)); exact HO259.out) hb); have BK260 := q_ (hbox); have GW260 := q_ ((by rw [hg]; exact (below_size z54_) : w.heap.size ≤ gb260)); have GE260 := q_ ((by rw [hg]; exact (below_size z54_) : w.heap.size ≤ gb260)); replace HB := q_ (below_step z54_ hb); have NB253_260 := q_ ((z148_ : gb253 ≠ gb260)); have NB260_253 := q_ ((z149_ : gb260 ≠ gb253)); replace BK253 := q_ (blk_below (g := gb253) (o := .cells #[.slice none 0 0, .slice none 0 0] 95 (0, 0)) z30_ hb); clear hb hbox hg; obtain ⟨Ao11, co11, eo11⟩ := Kd.R_slice HO256.out; subst eo11; have hnb12 := NB260_253.out; have hnc12 := NB253_260.out; obtain ⟨hcz13_0, hcz13_1, hfz13_0, hfz13_1⟩ := cs2_ BK260.out; obtain ⟨Ao14, co14, eo14⟩ := Kd.R_slice HO259.out; subst eo14))
 go_loopg [14] k (fun kq v14 w' => ∃ (x14_1 : Int) (x261000_1 : List ByteArray) (x261001_1 : List (S166)) (u261000 : Value) (u261001 : Value), v14 = .int .i64 x14_1 ∧ Aside0 (impl_Some.l0 kq l2 l1 (l1.length : Int) x14_1 x261000_1 x261001_1 = some (r1, r2)) ∧ Aside0 (kq ≤ k) ∧ Aside0 (Kd.R Kd.string 9 w' w.heap.size (fun _ => True) u261000 x261000_1) ∧ Aside0 (Kd.R k166 166 w' w.heap.size (fun _ => True) u261001 x261001_1) ∧ Aside0 (w'.heap[gb253]? = some (.cells #[(.slice none 0 0), (.slice none 0 0)] 95 (0, 0))) ∧ Aside0 (w'.heap[gb260]? = some (.cells #[u261000, u261001] 95 (0, 0))) ∧ Aside0 (Below w.heap.size w w'))
 case atStart => exact ⟨(0), (t254), (t257), (.slice Ao11 t254.length co11), (.slice Ao14 t257.length co14), z14_, H', ⟨Nat.le_refl _⟩, ⟨by (with_reducible repeat (first | apply Kd.R_alloc | apply Kd.R_drewN | apply Kd.R_drew)); exact Kd.R_mono (Kd.R_far (p := ⟨gb260, 1, none⟩) (Kd.R_far (p := ⟨gb260, 0, none⟩) (Kd.R_types HO256.out BK260.out (by decide)) (fun _ hk => hk.2) (.slice Ao11 t254.length co11)) (fun _ hk => hk.2) (.slice Ao14 t257.length co14)) (fun _ hk => trivial)⟩, ⟨by (with_reducible repeat (first | apply Kd.R_alloc | apply Kd.R_drewN | apply Kd.R_drew)); exact Kd.R_mono (Kd.R_far (p := ⟨gb260, 1, none⟩) (Kd.R_far (p := ⟨gb260, 0, none⟩) (Kd.R_types HO259.out BK260.out (by decide)) (fun _ hk => hk.2) (.slice Ao11 t254.length co11)) (fun _ hk => hk.2) (.slice Ao14 t257.length co14)) (fun _ hk => trivial)⟩, ⟨by (with_reducible repeat (first | refine blk_drewN ?_ _ | refine blk_drew ?_ | refine blk_alloc ?_ _)); refine blk_far ?_ NB253_260.out _; (with_reducible repeat (first | refine blk_drewN ?_ _ | refine blk_drew ?_ | refine blk_alloc ?_ _)); refine blk_far ?_ NB253_260.out _; (with_reducible repeat (first | refine blk_drewN ?_ _ | refine blk_drew ?_ | refine blk_alloc ?_ _)); exact BK253.out⟩, ⟨by (with_reducible repeat (first | refine blk_drewN ?_ _ | refine blk_drew ?_ | refine blk_alloc ?_ _)); refine blk_put (cs := #[.slice Ao11 t254.length co11, .slice none 0 0]) ?_ 1 _ rfl; (with_reducible repeat (first | refine blk_drewN ?_ _ | refine blk_drew ?_ | refine blk_alloc ?_ _)); refine blk_put (cs := #[.slice none 0 0, .slice none 0 0]) ?_ 0 _ rfl; (with_reducible repeat (first | refine blk_drewN ?_ _ | refine blk_drew ?_ | refine blk_alloc ?_ _)); exact BK260.out⟩, ⟨z24_⟩⟩
 case round =>
  clear H'
  try clear c1
  try clear c2
  try clear p2
  try clear c7
  try clear c8
  try clear c12
  try clear c14
  try clear hcz13_0
  try clear hcz13_1
  try clear hcz8_0
  try clear hcz8_1
  try clear hfz13_0
  try clear hfz13_1
  try clear hfz8_0
  try clear hfz8_1
  obtain ⟨x14_1, x261000_1, x261001_1, u261000, u261001, rfl, HA, HK1, HO_261000, HO_261001, BK253, BK260, HB⟩ := hrel
  cases gk with
  | zero => exact absurd HA.out (by simp [impl_Some.l0])
  | succ k1 =>
   have H := HA.out
   clear HA
   simp only [impl_Some.l0] at H
   by_cases c15 : x14_1 < (l1.length : Int)
   ·rw [if_pos c15] at H
    have c15b0 : decide (x14_1 < (l1.length : Int)) = true := decide_eq_true c15
    clear c15
    by_cases c16 : 0 ≤ x14_1
    ·rw [if_pos c16] at H
     have c16b0 : decide (0 ≤ x14_1) = true := decide_eq_true c16
     clear c16
     by_cases c17 : x14_1 < (l1.length : Int)
     ·rw [if_pos c17] at H
      have c17b0 : decide (x14_1 < (l1.length : Int)) = true := decide_eq_true c17
      clear c17
      by_cases c18 : x14_1 < (l2.length : Int)
      ·rw [if_pos c18] at H
       have c18b0 : decide (x14_1 < (l2.length : Int)) = true := decide_eq_true c18
       clear c18
       obtain ⟨bq19, hbq19⟩ : ∃ b_ : Bool, b_ = (rdOf false l2 x14_1) := ⟨_, rfl⟩
       replace H : (if bq19 = true then ((impl_Disk_write.f x261000_1 x261001_1 ((rd_T168 l1 x14_1).f0) ((rd_T168 l1 x14_1).f1) ((rd_T168 l1 x14_1).f2.f0) ((rd_T168 l1 x14_1).f2.f1)).bind fun bt264 => (impl_Some.l0 k1 l2 l1 (l1.length : Int) (wrap64 (x14_1 + 1)) bt264.1 bt264.2)) else (impl_Some.l0 k1 l2 l1 (l1.length : Int) (wrap64 (x14_1 + 1)) x261000_1 x261001_1)) = some (r1, r2) := by rw [← hbq19] at H; exact H
       have Nbq19 := q_ hbq19
       clear hbq19
       by_cases c20 : bq19 = true
       ·subst c20
        have H1 : ((impl_Disk_write.f x261000_1 x261001_1 ((rd_T168 l1 x14_1).f0) ((rd_T168 l1 x14_1).f1) ((rd_T168 l1 x14_1).f2.f0) ((rd_T168 l1 x14_1).f2.f1)).bind fun bt264 => (impl_Some.l0 k1 l2 l1 (l1.length : Int) (wrap64 (x14_1 + 1)) bt264.1 bt264.2)) = some (r1, r2) := z90_
        clear H
        have H := H1
        clear H1
        replace H := Option.bind_eq_some_iff.mp H
        obtain ⟨⟨t264, t265⟩, A210, H⟩ := H
        replace H : (impl_Some.l0 k1 l2 l1 (l1.length : Int) (wrap64 (x14_1 + 1)) t264 t265) = some (r1, r2) := H
        have A21 := q_ A210
        clear A210
        have H' := q_ H
        clear H
        have p261 : 0 ≤ (x14_1 : Int) := of_decide_eq_true z1_
        have q261 : x14_1 < (l1.length : Int) := of_decide_eq_true z1_
        obtain ⟨ad261, e261, hx261_0, hx261_1, hx261_2, hx261_3⟩ := at_T168 HR1.out x14_1 p261 q261
        cases e261
        replace hx261_0 := up_ HB hx261_0
        replace hx261_1 := up_ HB hx261_1
        replace hx261_2 := up_ HB hx261_2
        replace hx261_3 := up_ HB hx261_3
        replace p261 := eq_true p261
        replace q261 := eq_true q261
        go_wp2_with (first | ((with_reducible refine gate_dst (N := 9) rfl ?_); refine box_event ?hg (N := 9) ?hd (cs := #[.int .i64 0, .string (⟨#[]⟩ : ByteArray), .int .i64 0, .int .i64 0]) (t := 168) ?hr ?_; (case hd => rfl); (case hg => rfl); (case hr => exact z177_); intro gb262 hg w22 hbox hb; replace HO_261000 := q_ (Kd.R_below z106_ hb); replace HO_261001 := q_ (Kd.R_below z107_ hb); have BK262 := q_ (hbox); have GW262 := q_ ((z166_ : w.heap.size ≤ gb262)); have GE262 := q_ ((z166_ : w.heap.size ≤ gb262)); replace HB := q_ (below_step z24_ hb); have NB253_262 := q_ ((z148_ : gb253 ≠ gb262)); have NB262_253 := q_ ((z149_ : gb262 ≠ gb253)); replace BK253 := q_ (blk_below (g := gb253) (o := .cells #[.slice none 0 0, .slice none 0 0] 95 (0, 0)) z30_ hb); have NB260_262 := q_ ((z158_ : gb260 ≠ gb262)); have NB262_260 := q_ ((z159_ : gb262 ≠ gb260)); replace BK260 := q_ (blk_below (g := gb260) (o := .cells #[u261000, u261001] 95 (0, 0)) z43_ hb); clear hb hbox hg; have hnb23 := NB262_253.out; have hnc23 := NB253_262.out; have hnb24 := NB262_260.out; have hnc24 := NB260_262.out; obtain ⟨hcz25_0, hcz25_1, hcz25_2, hcz25_3, hfz25_0, hfz25_1, hfz25_2, hfz25_3⟩ := cs4_ BK262.out) | ((with_reducible refine gate_store (t := 168) (p := 9) rfl ?_); refine store_event (t := 168) (p := 9) (v := ?vo_w26) (w1 := ((((w22.setCell ⟨gb262, 0, none⟩ (.int .i64 ((rd_T168 l1 x14_1).f0))).setCell ⟨gb262, 1, none⟩ (.string ((rd_T168 l1 x14_1).f1))).setCell ⟨gb262, 2, none⟩ (.int .i64 ((rd_T168 l1 x14_1).f2.f0))).setCell ⟨gb262, 3, none⟩ (.int .i64 ((rd_T168 l1 x14_1).f2.f1)))) ?hg ?ho ?hn ?hr ?_; (case ho => rfl); (case hg => rfl); (case hn => rfl); (case hr => exact z177_); intro w26 hw; have n0_ : Aside0 (Kd.R Kd.string 9 w26 w.heap.size (fun _ => True) u261000 x261000_1) := ⟨(by rw [hw]; exact (by (with_reducible repeat (first | apply Kd.R_alloc | apply Kd.R_drewN | apply Kd.R_drew)); exact Kd.R_mono (Kd.R_far (p := ⟨gb262, 3, none⟩) (Kd.R_far (p := ⟨gb262, 2, none⟩) (Kd.R_far (p := ⟨gb262, 1, none⟩) (Kd.R_far (p := ⟨gb262, 0, none⟩) (Kd.R_types HO_261000.out BK262.out (by decide)) (fun _ hk => hk.2) (.int .i64 ((rd_T168 l1 x14_1).f0))) (fun _ hk => hk.2) (.string ((rd_T168 l1 x14_1).f1))) (fun _ hk => hk.2) (.int .i64 ((rd_T168 l1 x14_1).f2.f0))) (fun _ hk => hk.2) (.int .i64 ((rd_T168 l1 x14_1).f2.f1))) (fun _ hk => trivial)))⟩; have n1_ : Aside0 (Kd.R k166 166 w26 w.heap.size (fun _ => True) u261001 x261001_1) := ⟨(by rw [hw]; exact (by (with_reducible repeat (first | apply Kd.R_alloc | apply Kd.R_drewN | apply Kd.R_drew)); exact Kd.R_mono (Kd.R_far (p := ⟨gb262, 3, none⟩) (Kd.R_far (p := ⟨gb262, 2, none⟩) (Kd.R_far (p := ⟨gb262, 1, none⟩) (Kd.R_far (p := ⟨gb262, 0, none⟩) (Kd.R_types HO_261001.out BK262.out (by decide)) (fun _ hk => hk.2) (.int .i64 ((rd_T168 l1 x14_1).f0))) (fun _ hk => hk.2) (.string ((rd_T168 l1 x14_1).f1))) (fun _ hk => hk.2) (.int .i64 ((rd_T168 l1 x14_1).f2.f0))) (fun _ hk => hk.2) (.int .i64 ((rd_T168 l1 x14_1).f2.f1))) (fun _ hk => trivial)))⟩; have n2_ : Aside0 (w26.heap[gb253]? = some (.cells #[.slice none 0 0, .slice none 0 0] 95 (0, 0))) := ⟨(by rw [hw]; exact z25_)⟩; have n3_ : Aside0 (w26.heap[gb260]? = some (.cells #[u261000, u261001] 95 (0, 0))) := ⟨(by rw [hw]; exact z26_)⟩; have n4_ : Aside0 (w26.heap[gb262]? = some (.cells #[.int .i64 ((rd_T168 l1 x14_1).f0), .string ((rd_T168 l1 x14_1).f1), .int .i64 ((rd_T168 l1 x14_1).f2.f0), .int .i64 ((rd_T168 l1 x14_1).f2.f1)] 168 (0, 0))) := ⟨(by rw [hw]; exact (by (with_reducible repeat (first | refine blk_drewN ?_ _ | refine blk_drew ?_ | refine blk_alloc ?_ _)); refine blk_put (cs := #[.int .i64 ((rd_T168 l1 x14_1).f0), .string ((rd_T168 l1 x14_1).f1), .int .i64 ((rd_T168 l1 x14_1).f2.f0), .int .i64 0]) ?_ 3 _ rfl; (with_reducible repeat (first | refine blk_drewN ?_ _ | refine blk_drew ?_ | refine blk_alloc ?_ _)); refine blk_put (cs := #[.int .i64 ((rd_T168 l1 x14_1).f0), .string ((rd_T168 l1 x14_1).f1), .int .i64 0, .int .i64 0]) ?_ 2 _ rfl; (with_reducible repeat (first | refine blk_drewN ?_ _ | refine blk_drew ?_ | refine blk_alloc ?_ _)); refine blk_put (cs := #[.int .i64 ((rd_T168 l1 x14_1).f0), .string (⟨#[]⟩ : ByteArray), .int .i64 0, .int .i64 0]) ?_ 1 _ rfl; (with_reducible repeat (first | refine blk_drewN ?_ _ | refine blk_drew ?_ | refine blk_alloc ?_ _)); refine blk_put (cs := #[.int .i64 0, .string (⟨#[]⟩ : ByteArray), .int .i64 0, .int .i64 0]) ?_ 0 _ rfl; (with_reducible repeat (first | refine blk_drewN ?_ _ | refine blk_drew ?_ | refine blk_alloc ?_ _)); exact BK262.out))⟩; have n5_ : Aside0 (Below w.heap.size w w26) := ⟨(by rw [hw]; exact z63_)⟩; clear hw; clear HO_261000; clear HO_261001; clear BK253; clear BK260; clear BK262; clear HB; have HO_261000 := n0_; have HO_261001 := n1_; have BK253 := n2_; have BK260 := n3_; have BK262 := n4_; have HB := n5_; clear n0_ n1_ n2_ n3_ n4_ n5_; have p263 : 0 ≤ (x14_1 : Int) := of_decide_eq_true z1_; have q263 : x14_1 < (l2.length : Int) := of_decide_eq_true z1_; obtain ⟨ad263, e263, hx263_0⟩ := Kd.at_bool HR2.out x14_1 p263 q263; (try rw [← Nbq19.out] at hx263_0); cases e263; replace hx263_0 := up_ HB hx263_0; replace p263 := eq_true p263; replace q263 := eq_true q263; obtain ⟨hcz27_0, hcz27_1, hcz27_2, hcz27_3, hfz27_0, hfz27_1, hfz27_2, hfz27_3⟩ := cs4_ BK262.out; obtain ⟨Ao28, co28, eo28⟩ := Kd.R_slice HO_261000.out; subst eo28; obtain ⟨Ao29, co29, eo29⟩ := Kd.R_slice HO_261001.out; subst eo29) | ((with_reducible refine gate_callee (f := 150) rfl ?_); refine goesL_ (some 30) rfl rfl Try.func150 (by kernel_rfl) rfl #[.pointer (some ⟨gb260, 0, none⟩), .agg #[.int .i64 ((rd_T168 l1 x14_1).f0), .string ((rd_T168 l1 x14_1).f1), .int .i64 ((rd_T168 l1 x14_1).f2.f0), .int .i64 ((rd_T168 l1 x14_1).f2.f1)]] rfl z2_ ?_; (with_reducible refine (impl_Disk_write.calls gb260 (fun k_ => some k_ = (.slice Ao28 x261000_1.length co28 : Value).ownBlock) (.slice Ao28 x261000_1.length co28) x261000_1 (fun k_ => some k_ = (.slice Ao29 x261001_1.length co29 : Value).ownBlock) (.slice Ao29 x261001_1.length co29) x261001_1 ((rd_T168 l1 x14_1).f0) ((rd_T168 l1 x14_1).f1) ((rd_T168 l1 x14_1).f2.f0) ((rd_T168 l1 x14_1).f2.f1) t264 t265 w _ ?side1 ?side2 ?side3 ?side4 A21.out).mono ?_); (case side1 => repeat (first | (with_reducible first | exact HB.out | apply below_alloc | apply pw_below_drewN | apply below_drew1 | refine below_set ?_ GE253.out | refine below_set ?_ GE260.out | refine below_set ?_ GE262.out) | exact HB.out)); (case side2 => exact Kd.R_tight rfl HO_261000.out); (case side3 => exact Kd.R_tight rfl HO_261001.out); (case side4 => (with_reducible repeat (first | refine blk_drewN ?_ _ | refine blk_drew ?_ | refine blk_alloc ?_ _)); exact BK260.out); rintro e w30 ⟨rfl, hy0, hy1, hb, hkp⟩; refine ⟨_, rfl, ?_⟩; replace BK253 := q_ (blk_kept z30_ hkp (fun hs_ => Or.elim hs_ (fun e_ => (fun e_ => (Kd.R_ne HO_261000.out BK253.out (by decide)) e_) e_) (fun e_ => (fun e_ => (Kd.R_ne HO_261001.out BK253.out (by decide)) e_) e_))); replace BK260 := q_ (blk_kept z43_ hkp (fun hs_ => Or.elim hs_ (fun e_ => (fun e_ => (Kd.R_ne HO_261000.out BK260.out (by decide)) e_) e_) (fun e_ => (fun e_ => (Kd.R_ne HO_261001.out BK260.out (by decide)) e_) e_))); replace BK262 := q_ (blk_kept (by (with_reducible repeat (first | refine blk_drewN ?_ _ | refine blk_drew ?_ | refine blk_alloc ?_ _)); exact BK262.out) hkp (fun hs_ => Or.elim hs_ (fun e_ => (fun e_ => (Kd.R_ne HO_261000.out BK262.out (by decide)) e_) e_) (fun e_ => (fun e_ => (Kd.R_ne HO_261001.out BK262.out (by decide)) e_) e_))); replace HO_261000 := q_ (Kd.R_reok rfl hy0 (fun k_ e_ => HO_261000.out.1 k_ e_)); replace HO_261001 := q_ (Kd.R_reok rfl hy1 (fun k_ e_ => HO_261001.out.1 k_ e_)); replace HB := q_ (hb); (try clear hb); (try clear hkp); (try clear hy0); (try clear hy1)))
        go_roundg k1
        case measure => have := HK1.out; omega
        case rel => exact ⟨(wrap64 (x14_1 + 1)), (t264), (t265), (.slice Ao28 x261000_1.length co28), (.slice Ao29 x261001_1.length co29), z14_, H', ⟨z70_⟩, ⟨z106_⟩, ⟨z107_⟩, ⟨z30_⟩, ⟨z43_⟩, ⟨z63_⟩⟩
       ·replace c20 := Bool.eq_false_iff.mpr c20
        subst c20
        have H1 : (impl_Some.l0 k1 l2 l1 (l1.length : Int) (wrap64 (x14_1 + 1)) x261000_1 x261001_1) = some (r1, r2) := by rw [if_neg (show ¬ (false = true) by decide)] at H; exact H
        clear H
        have H := H1
        clear H1
        have H' := q_ H
        clear H
        have p261 : 0 ≤ (x14_1 : Int) := of_decide_eq_true z1_
        have q261 : x14_1 < (l1.length : Int) := of_decide_eq_true z1_
        obtain ⟨ad261, e261, hx261_0, hx261_1, hx261_2, hx261_3⟩ := at_T168 HR1.out x14_1 p261 q261
        cases e261
        replace hx261_0 := up_ HB hx261_0
        replace hx261_1 := up_ HB hx261_1
        replace hx261_2 := up_ HB hx261_2
        replace hx261_3 := up_ HB hx261_3
        replace p261 := eq_true p261
        replace q261 := eq_true q261
        go_wp2_with (first | ((with_reducible refine gate_dst (N := 9) rfl ?_); refine box_event ?hg (N := 9) ?hd (cs := #[.int .i64 0, .string (⟨#[]⟩ : ByteArray), .int .i64 0, .int .i64 0]) (t := 168) ?hr ?_; (case hd => rfl); (case hg => rfl); (case hr => exact z177_); intro gb262 hg w31 hbox hb; replace HO_261000 := q_ (Kd.R_below z106_ hb); replace HO_261001 := q_ (Kd.R_below z107_ hb); have BK262 := q_ (hbox); have GW262 := q_ ((z166_ : w.heap.size ≤ gb262)); have GE262 := q_ ((z166_ : w.heap.size ≤ gb262)); replace HB := q_ (below_step z24_ hb); have NB253_262 := q_ ((z148_ : gb253 ≠ gb262)); have NB262_253 := q_ ((z149_ : gb262 ≠ gb253)); replace BK253 := q_ (blk_below (g := gb253) (o := .cells #[.slice none 0 0, .slice none 0 0] 95 (0, 0)) z30_ hb); have NB260_262 := q_ ((z158_ : gb260 ≠ gb262)); have NB262_260 := q_ ((z159_ : gb262 ≠ gb260)); replace BK260 := q_ (blk_below (g := gb260) (o := .cells #[u261000, u261001] 95 (0, 0)) z43_ hb); clear hb hbox hg; have hnb32 := NB262_253.out; have hnc32 := NB253_262.out; have hnb33 := NB262_260.out; have hnc33 := NB260_262.out; obtain ⟨hcz34_0, hcz34_1, hcz34_2, hcz34_3, hfz34_0, hfz34_1, hfz34_2, hfz34_3⟩ := cs4_ BK262.out; have p263 : 0 ≤ (x14_1 : Int) := of_decide_eq_true z1_; have q263 : x14_1 < (l2.length : Int) := of_decide_eq_true z1_; obtain ⟨ad263, e263, hx263_0⟩ := Kd.at_bool HR2.out x14_1 p263 q263; (try rw [← Nbq19.out] at hx263_0); cases e263; have hn263_0 : ad263.block ≠ gb262 := Nat.ne_of_lt (Nat.lt_of_lt_of_le (by have := World.block_lt_of_cell? _ _ hx263_0; first | rwa [add_block] at this | exact this) GW262.out); have hn263_1 : ad263.block ≠ gb262 := Nat.ne_of_lt (Nat.lt_of_lt_of_le (by have := World.block_lt_of_cell? _ _ hx263_0; first | rwa [add_block] at this | exact this) GW262.out); have hn263_2 : ad263.block ≠ gb262 := Nat.ne_of_lt (Nat.lt_of_lt_of_le (by have := World.block_lt_of_cell? _ _ hx263_0; first | rwa [add_block] at this | exact this) GW262.out); have hn263_3 : ad263.block ≠ gb262 := Nat.ne_of_lt (Nat.lt_of_lt_of_le (by have := World.block_lt_of_cell? _ _ hx263_0; first | rwa [add_block] at this | exact this) GW262.out); replace hx263_0 := up_ HB hx263_0; replace hx263_0 := (cell_far (p := ⟨gb262, 0, none⟩) (by first | (rw [add_block]; exact hn263_0) | (show (Addr.add _ _).block ≠ _; rw [add_block]; exact hn263_0) | exact hn263_0) (.int .i64 ((rd_T168 l1 x14_1).f0))).trans hx263_0; replace hx263_0 := (cell_far (p := ⟨gb262, 1, none⟩) (by first | (rw [add_block]; exact hn263_1) | (show (Addr.add _ _).block ≠ _; rw [add_block]; exact hn263_1) | exact hn263_1) (.string ((rd_T168 l1 x14_1).f1))).trans hx263_0; replace hx263_0 := (cell_far (p := ⟨gb262, 2, none⟩) (by first | (rw [add_block]; exact hn263_2) | (show (Addr.add _ _).block ≠ _; rw [add_block]; exact hn263_2) | exact hn263_2) (.int .i64 ((rd_T168 l1 x14_1).f2.f0))).trans hx263_0; replace hx263_0 := (cell_far (p := ⟨gb262, 3, none⟩) (by first | (rw [add_block]; exact hn263_3) | (show (Addr.add _ _).block ≠ _; rw [add_block]; exact hn263_3) | exact hn263_3) (.int .i64 ((rd_T168 l1 x14_1).f2.f1))).trans hx263_0; clear hn263_0; clear hn263_1; clear hn263_2; clear hn263_3; replace p263 := eq_true p263; replace q263 := eq_true q263))
        go_roundg k1
        case measure => have := HK1.out; omega
        case rel => exact ⟨(wrap64 (x14_1 + 1)), (x261000_1), (x261001_1), (u261000), (u261001), z14_, H', ⟨z70_⟩, ⟨by (with_reducible repeat (first | apply Kd.R_alloc | apply Kd.R_drewN | apply Kd.R_drew)); exact Kd.R_mono (Kd.R_far (p := ⟨gb262, 3, none⟩) (Kd.R_far (p := ⟨gb262, 2, none⟩) (Kd.R_far (p := ⟨gb262, 1, none⟩) (Kd.R_far (p := ⟨gb262, 0, none⟩) (Kd.R_types HO_261000.out BK262.out (by decide)) (fun _ hk => hk.2) (.int .i64 ((rd_T168 l1 x14_1).f0))) (fun _ hk => hk.2) (.string ((rd_T168 l1 x14_1).f1))) (fun _ hk => hk.2) (.int .i64 ((rd_T168 l1 x14_1).f2.f0))) (fun _ hk => hk.2) (.int .i64 ((rd_T168 l1 x14_1).f2.f1))) (fun _ hk => trivial)⟩, ⟨by (with_reducible repeat (first | apply Kd.R_alloc | apply Kd.R_drewN | apply Kd.R_drew)); exact Kd.R_mono (Kd.R_far (p := ⟨gb262, 3, none⟩) (Kd.R_far (p := ⟨gb262, 2, none⟩) (Kd.R_far (p := ⟨gb262, 1, none⟩) (Kd.R_far (p := ⟨gb262, 0, none⟩) (Kd.R_types HO_261001.out BK262.out (by decide)) (fun _ hk => hk.2) (.int .i64 ((rd_T168 l1 x14_1).f0))) (fun _ hk => hk.2) (.string ((rd_T168 l1 x14_1).f1))) (fun _ hk => hk.2) (.int .i64 ((rd_T168 l1 x14_1).f2.f0))) (fun _ hk => hk.2) (.int .i64 ((rd_T168 l1 x14_1).f2.f1))) (fun _ hk => trivial)⟩, ⟨z25_⟩, ⟨z26_⟩, ⟨z63_⟩⟩
      ·rw [if_neg c18] at H
       have c18b0 : decide (x14_1 < (l2.length : Int)) = false := decide_eq_false c18
       clear c18
       have H' := q_ H
       clear H
       have p261 : 0 ≤ (x14_1 : Int) := of_decide_eq_true z1_
       have q261 : x14_1 < (l1.length : Int) := of_decide_eq_true z1_
       obtain ⟨ad261, e261, hx261_0, hx261_1, hx261_2, hx261_3⟩ := at_T168 HR1.out x14_1 p261 q261
       cases e261
       replace hx261_0 := up_ HB hx261_0
       replace hx261_1 := up_ HB hx261_1
       replace hx261_2 := up_ HB hx261_2
       replace hx261_3 := up_ HB hx261_3
       replace p261 := eq_true p261
       replace q261 := eq_true q261
       go_wp2_with (first | ((with_reducible refine gate_dst (N := 9) rfl ?_); refine box_event ?hg (N := 9) ?hd (cs := #[.int .i64 0, .string (⟨#[]⟩ : ByteArray), .int .i64 0, .int .i64 0]) (t := 168) ?hr ?_; (case hd => rfl); (case hg => rfl); (case hr => exact z177_); intro gb262 hg w35 hbox hb; replace HO_261000 := q_ (Kd.R_below z106_ hb); replace HO_261001 := q_ (Kd.R_below z107_ hb); have BK262 := q_ (hbox); have GW262 := q_ ((z166_ : w.heap.size ≤ gb262)); have GE262 := q_ ((z166_ : w.heap.size ≤ gb262)); replace HB := q_ (below_step z24_ hb); have NB253_262 := q_ ((z148_ : gb253 ≠ gb262)); have NB262_253 := q_ ((z149_ : gb262 ≠ gb253)); replace BK253 := q_ (blk_below (g := gb253) (o := .cells #[.slice none 0 0, .slice none 0 0] 95 (0, 0)) z30_ hb); have NB260_262 := q_ ((z158_ : gb260 ≠ gb262)); have NB262_260 := q_ ((z159_ : gb262 ≠ gb260)); replace BK260 := q_ (blk_below (g := gb260) (o := .cells #[u261000, u261001] 95 (0, 0)) z43_ hb); clear hb hbox hg; have hnb36 := NB262_253.out; have hnc36 := NB253_262.out; have hnb37 := NB262_260.out; have hnc37 := NB260_262.out; obtain ⟨hcz38_0, hcz38_1, hcz38_2, hcz38_3, hfz38_0, hfz38_1, hfz38_2, hfz38_3⟩ := cs4_ BK262.out))
       go_roundg k1
       case measure => have := HK1.out; omega
       case rel => exact ⟨(wrap64 (x14_1 + 1)), (x261000_1), (x261001_1), (u261000), (u261001), z14_, H', ⟨z70_⟩, ⟨by (with_reducible repeat (first | apply Kd.R_alloc | apply Kd.R_drewN | apply Kd.R_drew)); exact Kd.R_mono (Kd.R_far (p := ⟨gb262, 3, none⟩) (Kd.R_far (p := ⟨gb262, 2, none⟩) (Kd.R_far (p := ⟨gb262, 1, none⟩) (Kd.R_far (p := ⟨gb262, 0, none⟩) (Kd.R_types HO_261000.out BK262.out (by decide)) (fun _ hk => hk.2) (.int .i64 ((rd_T168 l1 x14_1).f0))) (fun _ hk => hk.2) (.string ((rd_T168 l1 x14_1).f1))) (fun _ hk => hk.2) (.int .i64 ((rd_T168 l1 x14_1).f2.f0))) (fun _ hk => hk.2) (.int .i64 ((rd_T168 l1 x14_1).f2.f1))) (fun _ hk => trivial)⟩, ⟨by (with_reducible repeat (first | apply Kd.R_alloc | apply Kd.R_drewN | apply Kd.R_drew)); exact Kd.R_mono (Kd.R_far (p := ⟨gb262, 3, none⟩) (Kd.R_far (p := ⟨gb262, 2, none⟩) (Kd.R_far (p := ⟨gb262, 1, none⟩) (Kd.R_far (p := ⟨gb262, 0, none⟩) (Kd.R_types HO_261001.out BK262.out (by decide)) (fun _ hk => hk.2) (.int .i64 ((rd_T168 l1 x14_1).f0))) (fun _ hk => hk.2) (.string ((rd_T168 l1 x14_1).f1))) (fun _ hk => hk.2) (.int .i64 ((rd_T168 l1 x14_1).f2.f0))) (fun _ hk => hk.2) (.int .i64 ((rd_T168 l1 x14_1).f2.f1))) (fun _ hk => trivial)⟩, ⟨z25_⟩, ⟨z26_⟩, ⟨z63_⟩⟩
     ·rw [if_neg c17] at H
      exact absurd H (by simp)
    ·rw [if_neg c16] at H
     exact absurd H (by simp)
   ·rw [if_neg c15] at H
    have c15b0 : decide (x14_1 < (l1.length : Int)) = false := decide_eq_false c15
    clear c15
    simp only [Option.some.injEq, Prod.mk.injEq] at H
    obtain ⟨rfl, rfl⟩ := H
    have hnb39 := NB260_253.out
    have hnc39 := NB253_260.out
    obtain ⟨hcz40_0, hcz40_1, hfz40_0, hfz40_1⟩ := cs2_ BK260.out
    obtain ⟨Ao41, co41, eo41⟩ := Kd.R_slice HO_261000.out
    subst eo41
    obtain ⟨hcz42_0, hcz42_1, hfz42_0, hfz42_1⟩ := cs2_ BK253.out
    obtain ⟨Ao43, co43, eo43⟩ := Kd.R_slice HO_261001.out
    subst eo43
    go_wp2
    refine bodyPost_ret (results_cell_row rfl _ _ gb253 95 #[.slice Ao41 x261000_1.length co41, .slice Ao43 x261001_1.length co43] (0, 0) _ rfl (by (with_reducible repeat (first | refine blk_drewN ?_ _ | refine blk_drew ?_ | refine blk_alloc ?_ _)); refine blk_put (cs := #[.slice Ao41 x261000_1.length co41, .slice none 0 0]) ?_ 1 _ rfl; (with_reducible repeat (first | refine blk_drewN ?_ _ | refine blk_drew ?_ | refine blk_alloc ?_ _)); refine blk_put (cs := #[.slice none 0 0, .slice none 0 0]) ?_ 0 _ rfl; (with_reducible repeat (first | refine blk_drewN ?_ _ | refine blk_drew ?_ | refine blk_alloc ?_ _)); exact BK253.out) Try.underlying95 rfl (by kernel_rfl)) rfl ?_
    exact ⟨_, _, z4_, by (with_reducible repeat (first | apply Kd.R_alloc | apply Kd.R_drewN | apply Kd.R_drew)); exact Kd.R_mono (Kd.R_far (p := ⟨gb253, 1, none⟩) (Kd.R_far (p := ⟨gb253, 0, none⟩) (Kd.R_types HO_261000.out BK253.out (by decide)) (fun _ hk => hk.2) (.slice Ao41 x261000_1.length co41)) (fun _ hk => hk.2) (.slice Ao43 x261001_1.length co43)) (fun _ hk => trivial), by (with_reducible repeat (first | apply Kd.R_alloc | apply Kd.R_drewN | apply Kd.R_drew)); exact Kd.R_mono (Kd.R_far (p := ⟨gb253, 1, none⟩) (Kd.R_far (p := ⟨gb253, 0, none⟩) (Kd.R_types HO_261001.out BK253.out (by decide)) (fun _ hk => hk.2) (.slice Ao41 x261000_1.length co41)) (fun _ hk => hk.2) (.slice Ao43 x261001_1.length co43)) (fun _ hk => trivial), z24_⟩

end Go.Proofs.Ytphlmbhjeoljoaa.PFnExactSome
