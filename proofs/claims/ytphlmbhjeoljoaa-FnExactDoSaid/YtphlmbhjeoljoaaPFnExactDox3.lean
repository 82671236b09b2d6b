-- Written by a program of this session, which goes by the kit's print. Not trusted: Lean checks it.
import Derived.Test.YtphlmbhjeoljoaaPFnExactDox0
import Derived.Test.YtphlmbhjeoljoaaPFnExactDox2
namespace Go.Proofs.Ytphlmbhjeoljoaa.PFnExactDo
open Go.RowKit Go.Proofs.YtphlmbhjeoljoaaW.PrintWords Go.Proofs.YtphlmbhjeoljoaaW.PrintLast Go.Proofs.YtphlmbhjeoljoaaW.PrintMore
attribute [local go_sem] max2_int min2_int max_two min_two max_three min_three max_four min_four   -- for this text's walks alone
set_option linter.unusedVariables false
set_option linter.unusedSimpArgs false

/-! ### laws_toWriteS: function 74 -/
def laws_toWriteS.l0 : Nat → List (S164) → List (S168) → Int → Option ((List (S168)))
 | 0, _, _, _ => none
 | k + 1, x0, x3, x4 => if x4 < (x0.length : Int) then (if 0 ≤ x4 then ((laws_toWrite.f ((rd_T164 x0 x4).f0) ((rd_T164 x0 x4).f1) ((rd_T164 x0 x4).f2.f0) ((rd_T164 x0 x4).f2.f1)).bind fun bt172 => (if x4 < (x3.length : Int) then (laws_toWriteS.l0 k x0 (x3.set (x4 : Int).toNat (⟨bt172.1, bt172.2.1, (⟨bt172.2.2.1, bt172.2.2.2⟩ : S166)⟩ : S168)) (wrap64 (x4 + 1))) else (none))) else (none)) else (some x3)
def laws_toWriteS.f (k : Nat) (l0 : List (S164)) : Option ((List (S168))) := if 0 ≤ (l0.length : Int) then (if ((l0.length : Int) : Int).toNat ≤ 7036874417766 then (laws_toWriteS.l0 k l0 (List.replicate ((l0.length : Int) : Int).toNat z168) 0) else (none)) else (none)
theorem laws_toWriteS.mono_l : ∀ k, (∀ y0 y1 y2, LeO (laws_toWriteS.l0 k y0 y1 y2) (laws_toWriteS.l0 (k + 1) y0 y1 y2))
 | 0 => fun _ _ _ r h => by simp [laws_toWriteS.l0] at h
 | k + 1 => by
  have ih0 := laws_toWriteS.mono_l k
  ·intro y0 y1 y2
   unfold laws_toWriteS.l0
   repeat' first
   | (with_reducible exact ih0 _ _ _)
   | (with_reducible exact LeO.refl _)
   | (with_reducible exact LeO.none _)
   | (with_reducible refine LeO.ite ?_ ?_)
   | (with_reducible refine LeO.bind ?_ (fun _ => ?_))
   | exact ih0 _ _ _
   | exact LeO.none _
   | refine LeO.ite ?_ ?_
   | refine LeO.bind ?_ (fun _ => ?_)
theorem laws_toWriteS.mono : ∀ a0 k, LeO (laws_toWriteS.f k a0) (laws_toWriteS.f (k + 1) a0) := by
 intro a0 k
 have ih0 := laws_toWriteS.mono_l k
 unfold laws_toWriteS.f
 repeat' first
   | (with_reducible exact ih0 _ _ _)
   | (with_reducible exact LeO.refl _)
   | (with_reducible exact LeO.none _)
   | (with_reducible refine LeO.ite ?_ ?_)
   | (with_reducible refine LeO.bind ?_ (fun _ => ?_))
   | exact ih0 _ _ _
   | exact LeO.none _
   | refine LeO.ite ?_ ?_
   | refine LeO.bind ?_ (fun _ => ?_)
set_option maxHeartbeats 8000000 in
set_option maxRecDepth 100000 in
theorem laws_toWriteS.calls (k : Nat) (A0 : Option Addr) (c0 : Nat) (l0 : List (S164)) (r : List (S168)) (w : World) (hr0 : Kd.C k164 w A0 l0.length l0) (hc0 : l0.length ≤ c0) (h : laws_toWriteS.f k l0 = some r) :
  Calls Try.prog 74 #[.slice A0 l0.length c0] w fun e w' => ∃ v0_ : Value, e = .returned (v0_) ∧ Kd.R k168 168 w' w.heap.size (fun _ => True) v0_ r ∧ Below w.heap.size w w' := by
 have hu164 := Try.underlying164
 have hu168 := Try.underlying168
 have HR0 := q_ hr0
 have HC0 := q_ hc0
 clear hr0 hc0
 have HB := q_ (Below.refl w.heap.size w)
 have H : (if 0 ≤ (l0.length : Int) then (if ((l0.length : Int) : Int).toNat ≤ 7036874417766 then (laws_toWriteS.l0 k l0 (List.replicate ((l0.length : Int) : Int).toNat z168) 0) else (none)) else (none)) = some r := h
 clear h
 by_cases c2 : 0 ≤ (l0.length : Int)
 ·rw [if_pos c2] at H
  have c2b0 := eq_true c2
  have c2b1 : decide (0 ≤ (l0.length : Int)) = true := decide_eq_true c2
  clear c2
  by_cases c3 : ((l0.length : Int) : Int).toNat ≤ 7036874417766
  ·rw [if_pos c3] at H
   have c3b0 := eq_true c3
   have c3b1 : decide (((l0.length : Int) : Int).toNat ≤ 7036874417766) = true := decide_eq_true c3
   clear c3
   obtain ⟨y168, hy_⟩ : ∃ y_ : List (S168), y_ = (List.replicate ((l0.length : Int) : Int).toNat z168) := ⟨_, rfl⟩
   replace H : (laws_toWriteS.l0 k l0 y168 0) = some r := z7_
   have Ny168 := q_ hy_
   clear hy_
   have H' := q_ H
   clear H
   go_enter Try.func74, Try.ntmps74
   go_wp2_with (first | ((with_reducible refine gate_dst (N := 7) rfl ?_); refine Kd.R_make k168 _ 168 rfl (N := 7) rfl 98 _ _ rfl (l0.length : Int) rfl rfl Try.underlying98 (.agg #[(.int .i64 0), (.string ⟨#[]⟩), (.int .i64 0), (.int .i64 0)]) 40 info168 rfl (by decide) (by omega) z168 (ok := fun _ => True) (okp := fun _ => True) (k168_mkM _ _ _ z168 ) (fun _ hk => hk) trivial (of_decide_eq_true z2_) (Nat.le_trans (Nat.mul_le_mul_right _ (of_decide_eq_true z2_ : (l0.length : Int).toNat ≤ 7036874417766)) (by omega)) (Below.refl _ _) (Nat.le_refl _) ?_; intro v169 w4 ho5 hb hg_ hnew_; clear hg_ hnew_; (first | rw [← Ny168.out] at ho5 | (simp only [Int.reduceToNat] at ho5; rw [← Ny168.out] at ho5)); have HO170 := q_ (Kd.R_lower ho5 (below_size z0_)); replace HB := q_ (below_step z0_ hb); clear hb ho5))
   go_loopg [4] k (fun kq v4 w' => ∃ (x3_1 : List (S168)) (x4_1 : Int), v4 = .int .i64 x4_1 ∧ Aside0 (laws_toWriteS.l0 kq l0 x3_1 x4_1 = some r) ∧ Aside0 (kq ≤ k) ∧ Aside0 (Kd.R k168 168 w' w.heap.size (fun _ => True) v169 x3_1) ∧ Aside0 (Below w.heap.size w w'))
   case atStart => exact ⟨(y168), (0), z30_, H', ⟨Nat.le_refl _⟩, ⟨by (with_reducible repeat (first | apply Kd.R_alloc | apply Kd.R_drewN | apply Kd.R_drew)); exact HO170.out⟩, ⟨z0_⟩⟩
   case round =>
    clear H'
    try clear c2
    try clear c2b0
    try clear c2b1
    try clear p2
    try clear c3
    try clear c3b0
    try clear c3b1
    obtain ⟨x3_1, x4_1, rfl, HA, HK1, HO_3, HB⟩ := hrel
    cases gk with
    | zero => exact absurd HA.out (by simp [laws_toWriteS.l0])
    | succ k1 =>
     have H := HA.out
     clear HA
     simp only [laws_toWriteS.l0] at H
     by_cases c6 : x4_1 < (l0.length : Int)
     ·rw [if_pos c6] at H
      have c6b0 : decide (x4_1 < (l0.length : Int)) = true := decide_eq_true c6
      clear c6
      by_cases c7 : 0 ≤ x4_1
      ·rw [if_pos c7] at H
       have c7b0 : decide (0 ≤ x4_1) = true := decide_eq_true c7
       clear c7
       replace H := Option.bind_eq_some_iff.mp H
       obtain ⟨⟨t172, t173, t174, t175⟩, A80, H⟩ := H
       replace H : (if x4_1 < (x3_1.length : Int) then (laws_toWriteS.l0 k1 l0 (x3_1.set (x4_1 : Int).toNat (⟨t172, t173, (⟨t174, t175⟩ : S166)⟩ : S168)) (wrap64 (x4_1 + 1))) else (none)) = some r := H
       have A8 := q_ A80
       clear A80
       by_cases c9 : x4_1 < (x3_1.length : Int)
       ·rw [if_pos c9] at H
        have c9b0 : decide (x4_1 < (x3_1.length : Int)) = true := decide_eq_true c9
        clear c9
        obtain ⟨y176, hy_⟩ : ∃ y_ : List (S168), y_ = (x3_1.set (x4_1 : Int).toNat (⟨t172, t173, (⟨t174, t175⟩ : S166)⟩ : S168)) := ⟨_, rfl⟩
        replace H : (laws_toWriteS.l0 k1 l0 y176 (wrap64 (x4_1 + 1))) = some r := z7_
        have Ny176 := q_ hy_
        clear hy_
        have H' := q_ H
        clear H
        have p171 : 0 ≤ (x4_1 : Int) := of_decide_eq_true z2_
        have q171 : x4_1 < (l0.length : Int) := of_decide_eq_true z2_
        obtain ⟨ad171, e171, hx171_0, hx171_1, hx171_2, hx171_3⟩ := at_T164 HR0.out x4_1 p171 q171
        cases e171
        replace hx171_0 := up_ HB hx171_0
        replace hx171_1 := up_ HB hx171_1
        replace hx171_2 := up_ HB hx171_2
        replace hx171_3 := up_ HB hx171_3
        replace p171 := eq_true p171
        replace q171 := eq_true q171
        go_wp2_with (first | ((with_reducible refine gate_callee (f := 148) rfl ?_); refine goesL_ (some 20) rfl rfl Try.func148 (by kernel_rfl) rfl #[.agg #[.int .i64 ((rd_T164 l0 x4_1).f0), .string ((rd_T164 l0 x4_1).f1), .int .i64 ((rd_T164 l0 x4_1).f2.f0), .int .i64 ((rd_T164 l0 x4_1).f2.f1)]] rfl z1_ ?_; (with_reducible refine (laws_toWrite.calls ((rd_T164 l0 x4_1).f0) ((rd_T164 l0 x4_1).f1) ((rd_T164 l0 x4_1).f2.f0) ((rd_T164 l0 x4_1).f2.f1) t172 t173 t174 t175 _ A8.out).mono ?_); rintro e w11 ⟨rfl, hb⟩; refine ⟨_, rfl, ?_⟩; replace HO_3 := q_ (Kd.R_below z74_ hb); replace HB := q_ (below_step z0_ hb); (try clear hb); (try clear hb2); (try clear hk); (try clear hi); have p10 : 0 ≤ (x4_1 : Int) := of_decide_eq_true z2_; have q10 : (x4_1 : Int) < ((x3_1.length : Int) : Int) := of_decide_eq_true z2_; obtain ⟨go10, co10, eo10, gb10, gl10, cl10, HG10⟩ := Kd.R_form HO_3.out (by omega); (first | cases eo10 | (injection eo10 with ea_ en_ ec_; (first | subst ea_ | (injection ea_ with ea_; subst ea_)); subst ec_; clear en_)); have GB10 := q_ gb10; have GG10 := q_ HG10; clear gb10 gl10 HG10; obtain ⟨ce10, hcl10, hM10, hcc10, hfr10⟩ := Kd.R_elem HO_3.out z168 (x4_1 : Int) p10 q10; obtain rfl := k168_openM hM10; have hx10_0 : w11.cell? ⟨go10, (x4_1 : Int).toNat * 4, none⟩ = some (.int .i64 ((rd_T168 x3_1 x4_1).f0)) := hcc10 0 _ rfl; have hx10_1 : w11.cell? ⟨go10, (x4_1 : Int).toNat * 4 + 1, none⟩ = some (.string ((rd_T168 x3_1 x4_1).f1)) := hcc10 1 _ rfl; have hx10_2 : w11.cell? ⟨go10, (x4_1 : Int).toNat * 4 + 2, none⟩ = some (.int .i64 ((rd_T168 x3_1 x4_1).f2.f0)) := hcc10 2 _ rfl; have hx10_3 : w11.cell? ⟨go10, (x4_1 : Int).toNat * 4 + 3, none⟩ = some (.int .i64 ((rd_T168 x3_1 x4_1).f2.f1)) := hcc10 3 _ rfl; have hf10_0 : w11.frozen? ⟨go10, (x4_1 : Int).toNat * 4, none⟩ = false := hfr10 0; have hf10_1 : w11.frozen? ⟨go10, (x4_1 : Int).toNat * 4 + 1, none⟩ = false := hfr10 1; have hf10_2 : w11.frozen? ⟨go10, (x4_1 : Int).toNat * 4 + 2, none⟩ = false := hfr10 2; have hf10_3 : w11.frozen? ⟨go10, (x4_1 : Int).toNat * 4 + 3, none⟩ = false := hfr10 3; clear hcl10 hcc10 hfr10 hM10; replace p10 := eq_true p10; replace q10 := eq_true q10; have HX12 := q_ (show Kd.R k168 168 w11 w.heap.size (fun _ => True) (.slice (some ⟨go10, 0, none⟩) x3_1.length co10) x3_1 from z74_); obtain ⟨ce12, hcl12, hM12, hcc12, hfr12⟩ := Kd.R_elem HX12.out z168 (x4_1 : Int) (of_decide_eq_true z2_) z147_; obtain rfl := k168_openM hM12; have HP12 := Kd.R_seg HX12.out (x4_1 : Int) (of_decide_eq_true z2_) z147_ (seg := [.int .i64 t172, .string t173, .int .i64 t174, .int .i64 t175]) (j := 0) hcl12 hcc12 (show 4 ≤ 4 from by decide) (x' := (⟨t172, t173, (⟨t174, t175⟩ : S166)⟩ : S168)) (k168_mkM _ _ _ (⟨t172, t173, (⟨t174, t175⟩ : S166)⟩ : S168) ) (fun _ hk => hk); have hx12_0 := hcc12 0 _ rfl; (try simp only [show (k168).sz = 4 from rfl, Nat.mul_one, Nat.add_zero] at hx12_0); have hf12_0 := hfr12 0; (try simp only [show (k168).sz = 4 from rfl, Nat.mul_one, Nat.add_zero] at hf12_0); have hx12_1 := hcc12 1 _ rfl; (try simp only [show (k168).sz = 4 from rfl, Nat.mul_one, Nat.add_zero] at hx12_1); have hf12_1 := hfr12 1; (try simp only [show (k168).sz = 4 from rfl, Nat.mul_one, Nat.add_zero] at hf12_1); have hx12_2 := hcc12 2 _ rfl; (try simp only [show (k168).sz = 4 from rfl, Nat.mul_one, Nat.add_zero] at hx12_2); have hf12_2 := hfr12 2; (try simp only [show (k168).sz = 4 from rfl, Nat.mul_one, Nat.add_zero] at hf12_2); have hx12_3 := hcc12 3 _ rfl; (try simp only [show (k168).sz = 4 from rfl, Nat.mul_one, Nat.add_zero] at hx12_3); have hf12_3 := hfr12 3; (try simp only [show (k168).sz = 4 from rfl, Nat.mul_one, Nat.add_zero] at hf12_3); clear hcl12 hcc12 hfr12 hM12) | ((with_reducible refine gate_store (t := 168) (p := 21) rfl ?_); refine store_event (t := 168) (p := 21) (v := ?vo_w13) (w1 := ((((w11.setCell ⟨go10, (x4_1 : Int).toNat * 4, none⟩ (.int .i64 t172)).setCell ⟨go10, (x4_1 : Int).toNat * 4 + 1, none⟩ (.string t173)).setCell ⟨go10, (x4_1 : Int).toNat * 4 + 2, none⟩ (.int .i64 t174)).setCell ⟨go10, (x4_1 : Int).toNat * 4 + 3, none⟩ (.int .i64 t175))) ?hg ?ho ?hn ?hr ?_; (case ho => rfl); (case hg => rfl); (case hn => rfl); (case hr => exact z200_); intro w13 hw; have hg : w11.grownBy w13 (some go10) := (by rw [hw]; exact HP12.2); have hp_ : Kd.R k168 168 w13 w.heap.size (fun _ => True) (.slice (some ⟨go10, 0, none⟩) x3_1.length co10) y176 := (by rw [hw, Ny176.out]; exact HP12.1); clear HP12; replace HO_3 := q_ (hp_); replace HB := q_ ((by rw [hw]; exact below_set (below_set (below_set (below_set (HB.out) GB10.out) GB10.out) GB10.out) GB10.out : Below w.heap.size w w13)); clear hg hw hp_))
        go_roundg k1
        case measure => have := HK1.out; omega
        case rel => exact ⟨(y176), (wrap64 (x4_1 + 1)), z30_, H', ⟨z89_⟩, ⟨z74_⟩, ⟨z0_⟩⟩
       ·rw [if_neg c9] at H
        exact absurd H (by simp)
      ·rw [if_neg c7] at H
       exact absurd H (by simp)
     ·rw [if_neg c6] at H
      have c6b0 : decide (x4_1 < (l0.length : Int)) = false := decide_eq_false c6
      clear c6
      obtain rfl := Option.some.inj H
      go_wp2
      go_ret
      exact ⟨_, z16_, z74_, z0_⟩
  ·rw [if_neg c3] at H
   exact absurd H (by simp)
 ·rw [if_neg c2] at H
  exact absurd H (by simp)

/-! ### slices_Clone_string: function 180 -/
def slices_Clone_string.f (l0 : List ByteArray) : Option (List ByteArray) := if l0.length < 8796093022208 then some l0 else none
set_option maxHeartbeats 8000000 in
set_option maxRecDepth 100000 in
theorem slices_Clone_string.calls (A0 : Option Addr) (c0 : Nat) (l0 : List ByteArray) (r : List ByteArray) (w : World) (hr0 : Kd.C Kd.string w A0 l0.length l0) (hc0 : l0.length ≤ c0) (h : slices_Clone_string.f l0 = some r) :
  Calls Try.prog 180 #[.slice A0 l0.length c0] w fun e w' => ∃ v0_ : Value, e = .returned (v0_) ∧ Kd.R Kd.string 9 w' w.heap.size (fun _ => True) v0_ r ∧ Below w.heap.size w w' := by
 unfold slices_Clone_string.f at h
 by_cases hlim : l0.length < 8796093022208
 ·rw [if_pos hlim] at h
  obtain rfl := Option.some.inj h
  rcases A0 with _ | ad
  ·have h0 : l0 = [] := by
    rcases Nat.eq_zero_or_pos l0.length with h0 | h0
    ·exact List.eq_nil_of_length_eq_zero h0
    ·obtain ⟨ad, e, _⟩ := hr0.2.2 h0
     cases e
   subst h0
   have hn := fun W : World => Lib.run_eql_slice_nil (P := Try.prog) W 86 9 none 0 c0 0 0 Try.underlying86
   simp only [Option.isNone_none] at hn
   clear hr0 hc0 h hlim
   go_enter Try.func180, Try.ntmps180
   go_wp2
   go_ret
   exact ⟨_, rfl, Kd.R_nil _ _ _ _ _, Below.refl _ _⟩
  ·have hn := fun W : World => Lib.run_eql_slice_nil (P := Try.prog) W 86 9 (some ad) l0.length c0 0 0 Try.underlying86
   simp only [Option.isNone_some] at hn
   have HR0 := q_ hr0
   have HLM := q_ hlim
   have HB := q_ (Below.refl w.heap.size w)
   clear hr0 hc0 h hlim
   go_enter Try.func180, Try.ntmps180
   go_wp2_with (first | ((with_reducible refine gate_dst (N := 5) rfl ?_); refine Kd.R_lit Kd.string _ 9 ?hg (N := 5) ?hd (xs := ([] : List ByteArray)) (inner := []) (ok := fun _ => True) (okp := fun _ => True) ?hr ?hp (fun _ hk => hk) trivial (Below.refl _ _) (Nat.le_refl _) (by simp) ?_; (case hd => rfl); (case hg => rfl); (case hr => exact z200_); (case hp => exact (Reps.none _ _)); intro v1 w6 ho7 hb hg_ hnew_; clear hg_ hnew_; have n0_ := q_ (Kd.R_lower ho7 (below_size z0_)); have n2_ := q_ (below_step z0_ hb); clear HB; have HO1 := n0_; have HB := n2_; clear n0_ n2_; clear hb ho7) | ((with_reducible refine gate_builtin (b := .append) (xs := #[.tmp 5, .tmp 6]) rfl ?_); at_builtin; refine Kd.R_append_rows Kd.string (w0 := w) w.heap.size rfl (.tmp 5) (.tmp 6) 86 9 (.string ⟨#[]⟩) 16 rfl Try.underlying86 info9 rfl (by decide) (by omega) v1 [] l0 _ _ _ (fun _ => True) (fun _ => False) rfl rfl ?aO ?aR (fun _ _ h => h) (fun _ h => h.elim) ?aF ?aB ?aS ?aL ?_; (case aR => exact z223_); (case aB => exact z0_); (case aF => exact z236_); (case aO => exact z134_); (case aS => exact (below_size z0_)); (case aL => have := HLM.out; simp only [List.length_nil]; omega); intro v2 w7 ho hb hg hat; rw [List.nil_append] at ho; have HO2 := q_ ho; have n1_ := q_ hb; clear HB HO1; have HB := n1_; clear n1_; clear ho hb hg hat))
   go_ret
   exact ⟨_, rfl, z135_, z0_⟩
 ·rw [if_neg hlim] at h
  cases h

/-! ### slices_Clone_Super: function 181 -/
def slices_Clone_Super.f (l0 : List (S166)) : Option (List (S166)) := if l0.length < 8796093022208 then some l0 else none
set_option maxHeartbeats 8000000 in
set_option maxRecDepth 100000 in
theorem slices_Clone_Super.calls (A0 : Option Addr) (c0 : Nat) (l0 : List (S166)) (r : List (S166)) (w : World) (hr0 : Kd.C k166 w A0 l0.length l0) (hc0 : l0.length ≤ c0) (h : slices_Clone_Super.f l0 = some r) :
  Calls Try.prog 181 #[.slice A0 l0.length c0] w fun e w' => ∃ v0_ : Value, e = .returned (v0_) ∧ Kd.R k166 166 w' w.heap.size (fun _ => True) v0_ r ∧ Below w.heap.size w w' := by
 unfold slices_Clone_Super.f at h
 by_cases hlim : l0.length < 8796093022208
 ·rw [if_pos hlim] at h
  obtain rfl := Option.some.inj h
  rcases A0 with _ | ad
  ·have h0 : l0 = [] := by
    rcases Nat.eq_zero_or_pos l0.length with h0 | h0
    ·exact List.eq_nil_of_length_eq_zero h0
    ·obtain ⟨ad, e, _⟩ := hr0.2.2 h0
     cases e
   subst h0
   have hn := fun W : World => Lib.run_eql_slice_nil (P := Try.prog) W 93 166 none 0 c0 0 0 Try.underlying93
   simp only [Option.isNone_none] at hn
   clear hr0 hc0 h hlim
   go_enter Try.func181, Try.ntmps181
   go_wp2
   go_ret
   exact ⟨_, rfl, Kd.R_nil _ _ _ _ _, Below.refl _ _⟩
  ·have hn := fun W : World => Lib.run_eql_slice_nil (P := Try.prog) W 93 166 (some ad) l0.length c0 0 0 Try.underlying93
   simp only [Option.isNone_some] at hn
   have HR0 := q_ hr0
   have HLM := q_ hlim
   have HB := q_ (Below.refl w.heap.size w)
   clear hr0 hc0 h hlim
   go_enter Try.func181, Try.ntmps181
   go_wp2_with (first | ((with_reducible refine gate_dst (N := 5) rfl ?_); refine Kd.R_lit k166 _ 166 ?hg (N := 5) ?hd (xs := ([] : List (S166))) (inner := []) (ok := fun _ => True) (okp := fun _ => True) ?hr ?hp (fun _ hk => hk) trivial (Below.refl _ _) (Nat.le_refl _) (by simp) ?_; (case hd => rfl); (case hg => rfl); (case hr => exact z200_); (case hp => exact (Reps.none _ _)); intro v1 w6 ho7 hb hg_ hnew_; clear hg_ hnew_; have n0_ := q_ (Kd.R_lower ho7 (below_size z0_)); have n2_ := q_ (below_step z0_ hb); clear HB; have HO1 := n0_; have HB := n2_; clear n0_ n2_; clear hb ho7) | ((with_reducible refine gate_builtin (b := .append) (xs := #[.tmp 5, .tmp 6]) rfl ?_); at_builtin; refine Kd.R_append_rows k166 (w0 := w) w.heap.size rfl (.tmp 5) (.tmp 6) 93 166 (.agg #[(.int .i64 0), (.int .i64 0)]) 16 rfl Try.underlying93 info166 rfl (by decide) (by omega) v1 [] l0 _ _ _ (fun _ => True) (fun _ => False) rfl rfl ?aO ?aR (fun _ _ h => h) (fun _ h => h.elim) ?aF ?aB ?aS ?aL ?_; (case aR => exact z223_); (case aB => exact z0_); (case aF => exact z236_); (case aO => exact z134_); (case aS => exact (below_size z0_)); (case aL => have := HLM.out; simp only [List.length_nil]; omega); intro v2 w7 ho hb hg hat; rw [List.nil_append] at ho; have HO2 := q_ ho; have n1_ := q_ hb; clear HB HO1; have HB := n1_; clear n1_; clear ho hb hg hat))
   go_ret
   exact ⟨_, rfl, z135_, z0_⟩
 ·rw [if_neg hlim] at h
  cases h

/-! ### impl_copyDisk: function 149 -/
def impl_copyDisk.f (l0_0 : List ByteArray) (l0_1 : List (S166)) : Option (List ByteArray × (List (S166))) := (slices_Clone_string.f l0_0).bind fun t179 => ((slices_Clone_Super.f l0_1).bind fun t182 => (some (t179, t182)))
def impl_copyDisk.T1 : Bool × List (List Nat × List Nat) := (true, [([], []), ([0], [0]), ([1], [1]), ([], []), ([3], [3]), ([4, 2], [4]), ([2, 5], [2, 5]), ([6, 5, 0, 1, 2, 3, 4, 5, 6], [6])])
def impl_copyDisk.B1 : List Nat := [0, 1, 3, 0, 8, 31, 63, 127]
theorem impl_copyDisk.tab1 : rtab .any (opsOf Try.f149 1) = impl_copyDisk.T1 := by kernel_rfl
theorem impl_copyDisk.bits1 : waitsOk impl_copyDisk.T1.2 impl_copyDisk.B1 = true := by kernel_rfl
set_option maxHeartbeats 8000000 in
set_option maxRecDepth 100000 in
theorem impl_copyDisk.calls (A0_0 : Option Addr) (c0_0 : Nat) (l0_0 : List ByteArray) (A0_1 : Option Addr) (c0_1 : Nat) (l0_1 : List (S166)) (r1 : List ByteArray) (r2 : List (S166)) (w : World) (hr0_0 : Kd.C Kd.string w A0_0 l0_0.length l0_0) (hc0_0 : l0_0.length ≤ c0_0) (hr0_1 : Kd.C k166 w A0_1 l0_1.length l0_1) (hc0_1 : l0_1.length ≤ c0_1) (h : impl_copyDisk.f l0_0 l0_1 = some (r1, r2)) :
  Calls Try.prog 149 #[.agg #[.slice A0_0 l0_0.length c0_0, .slice A0_1 l0_1.length c0_1]] w fun e w' => ∃ v0_ v1_ : Value, e = .returned (.agg #[v0_, v1_]) ∧ Kd.R Kd.string 9 w' w.heap.size (fun _ => True) v0_ r1 ∧ Kd.R k166 166 w' w.heap.size (fun _ => True) v1_ r2 ∧ Below w.heap.size w w' := by
 have hu95 := Try.underlying95
 have HR0_0 := q_ hr0_0
 have HC0_0 := q_ hc0_0
 clear hr0_0 hc0_0
 have HR0_1 := q_ hr0_1
 have HC0_1 := q_ hc0_1
 clear hr0_1 hc0_1
 have HB := q_ (Below.refl w.heap.size w)
 have H : ((slices_Clone_string.f l0_0).bind fun t179 => ((slices_Clone_Super.f l0_1).bind fun t182 => (some (t179, t182)))) = some (r1, r2) := h
 clear h
 replace H := Option.bind_eq_some_iff.mp H
 obtain ⟨t179, A20, H⟩ := H
 replace H : ((slices_Clone_Super.f l0_1).bind fun t182 => (some (t179, t182))) = some (r1, r2) := H
 have A2 := q_ A20
 clear A20
 replace H := Option.bind_eq_some_iff.mp H
 obtain ⟨t182, A30, H⟩ := H
 replace H : (some (t179, t182)) = some (r1, r2) := H
 have A3 := q_ A30
 clear A30
 simp only [Option.some.injEq, Prod.mk.injEq] at H
 obtain ⟨rfl, rfl⟩ := H
 go_enter Try.func149, Try.ntmps149
 try go_wp2_with (first | ((with_reducible refine gate_dst (N := 1) rfl ?_); refine box_event ?hg (N := 1) ?hd (cs := #[.slice A0_0 l0_0.length c0_0, .slice A0_1 l0_1.length c0_1]) (t := 95) ?hr ?_; (case hd => rfl); (case hg => rfl); (case hr => exact z200_); intro gb177 hg w4 hbox hb; have BK177 := q_ (hbox); have GW177 := q_ ((z136_ : w.heap.size ≤ gb177)); have GE177 := q_ ((z136_ : w.heap.size ≤ gb177)); replace HB := q_ (below_step z0_ hb); clear hb hbox hg) | ((with_reducible refine gate_dst (N := 2) rfl ?_); refine box_event ?hg (N := 2) ?hd (cs := #[.slice none 0 0, .slice none 0 0]) (t := 95) ?hr ?_; (case hd => rfl); (case hg => rfl); (case hr => exact z200_); intro gb178 hg w5 hbox hb; have BK178 := q_ (hbox); have GW178 := q_ ((by rw [hg]; exact (below_size z103_) : w.heap.size ≤ gb178)); have GE178 := q_ ((by rw [hg]; exact (below_size z103_) : w.heap.size ≤ gb178)); replace HB := q_ (below_step z103_ hb); have NB177_178 := q_ ((by rw [hg]; exact Nat.ne_of_lt (blk_lt (g := gb177) (o := .cells #[.slice A0_0 l0_0.length c0_0, .slice A0_1 l0_1.length c0_1] 95 (0, 0)) z90_) : gb177 ≠ gb178)); have NB178_177 := q_ ((by rw [hg]; exact Nat.ne_of_gt (blk_lt (g := gb177) (o := .cells #[.slice A0_0 l0_0.length c0_0, .slice A0_1 l0_1.length c0_1] 95 (0, 0)) z90_) : gb178 ≠ gb177)); replace BK177 := q_ (blk_below (g := gb177) (o := .cells #[.slice A0_0 l0_0.length c0_0, .slice A0_1 l0_1.length c0_1] 95 (0, 0)) z90_ hb); clear hb hbox hg))
 replace BK177 := q_ (blk_drew BK177.out)
 replace BK178 := q_ (blk_drew BK178.out)
 replace HB := q_ (below_drew1 HB.out)
 refine start_ (n := 8) (S := fun w' => w'.cell? ⟨gb177, 0, none⟩ = some (.slice A0_0 l0_0.length c0_0) ∧ w'.cell? ⟨gb177, 1, none⟩ = some (.slice A0_1 l0_1.length c0_1)) (ds := []) (tf 0 8) (by kernel_rfl) rfl rfl ⟨(blk_cell BK177.out 0).trans rfl, (blk_cell BK177.out 1).trans rfl⟩ (fun hHeld => ?_); refine with_tabW impl_copyDisk.tab1 impl_copyDisk.bits1 (fun HT_ HW_ => ?_)
 generalize w5.drew = w6 at BK177 BK178 HB hHeld ⊢
 refine p1_ 0 (some 3) (tf 1 7) HT_.out ?_
 refine p1_ 3 (some 6) #[true, false, false, true, false, false, false, false] HT_.out ?_
 refine take_ (i := 1) (N := some 4) (v := ?_) (a' := ?_) #[true, true, false, true, false, false, false, false] rfl rfl (take_ofW HT_.out HW_.out (by kernel_rfl)) (fun _ _ _ h => h) (Or.inl ⟨by rfl, ?_⟩) hHeld ?_ ?_
 rotate_left
 ·rintro w' ⟨s0, s1⟩
  go_simp
  with_reducible rfl
 rotate_left
 ·simp only [Act.put, List.setIfInBounds_toArray, List.set_cons_zero, List.set_cons_succ, i64_w, i32_w]
  rfl
 refine take_ (i := 4) (N := some 7) (v := ?_) (a' := ?_) #[true, true, false, true, true, false, false, false] rfl rfl (take_ofW HT_.out HW_.out (by kernel_rfl)) (fun _ _ _ h => h) (Or.inl ⟨by rfl, ?_⟩) hHeld ?_ ?_
 rotate_left
 ·rintro w' ⟨s0, s1⟩
  go_simp
  with_reducible rfl
 rotate_left
 ·simp only [Act.put, List.setIfInBounds_toArray, List.set_cons_zero, List.set_cons_succ, i64_w, i32_w]
  rfl
 refine one_ (i := 2) (N := some 5) (tf 5 3) rfl rfl (one_of HT_.out (by kernel_rfl)) (by decide) (fun K hK => ?_)
 refine goes_ Try.func180 (by kernel_rfl) rfl #[.slice A0_0 l0_0.length c0_0] (by rfl) rfl rfl z1_ ?_
 with_reducible refine (slices_Clone_string.calls _ _ l0_0 t179 _ ?side1 ?side2 A2.out).mono ?_
 (case side1 => exact z199_)
 (case side2 => exact z221_)
 rintro e w7 ⟨v180, rfl, ho0, hb⟩
 refine ⟨_, rfl, ?_⟩
 have HO181 := q_ (Kd.R_lower ho0 (below_size z77_))
 replace BK177 := q_ (blk_below (g := gb177) (o := .cells #[.slice A0_0 l0_0.length c0_0, .slice A0_1 l0_1.length c0_1] 95 (0, 0)) z90_ hb)
 replace BK178 := q_ (blk_below (g := gb178) (o := .cells #[.slice none 0 0, .slice none 0 0] 95 (0, 0)) z127_ hb)
 replace HB := q_ (below_step z77_ hb)
 (try clear hb)
 (try clear hb2)
 (try clear hk)
 (try clear hi)
 (try clear ho0)
 refine hK.out _ _ ⟨(blk_cell BK177.out 0).trans rfl, (blk_cell BK177.out 1).trans rfl⟩ (fun hHeld => ?_)
 clear hK K
 refine norm_ (a' := ?_) ?_ ?_
 rotate_left
 ·show Act.put _ (some 5) _ = _
  simp only [Act.put, List.setIfInBounds_toArray, List.set_cons_zero, List.set_cons_succ, i64_w, i32_w]
  rfl
 refine one_ (i := 5) (N := some 8) (tf 6 2) rfl rfl (one_of HT_.out (by kernel_rfl)) (by decide) (fun K hK => ?_)
 refine goes_ Try.func181 (by kernel_rfl) rfl #[.slice A0_1 l0_1.length c0_1] (by rfl) rfl rfl z1_ ?_
 with_reducible refine (slices_Clone_Super.calls _ _ l0_1 t182 _ ?side1 ?side2 A3.out).mono ?_
 (case side1 => exact z201_)
 (case side2 => exact z222_)
 rintro e w8 ⟨v183, rfl, ho0, hb⟩
 refine ⟨_, rfl, ?_⟩
 replace HO181 := q_ (Kd.R_below (by (with_reducible repeat (first | apply Kd.R_alloc | apply Kd.R_drewN | apply Kd.R_drew)); exact HO181.out) hb)
 have HO184 := q_ (Kd.R_lower ho0 (below_size z77_))
 replace BK177 := q_ (blk_below (g := gb177) (o := .cells #[.slice A0_0 l0_0.length c0_0, .slice A0_1 l0_1.length c0_1] 95 (0, 0)) z90_ hb)
 replace BK178 := q_ (blk_below (g := gb178) (o := .cells #[.slice none 0 0, .slice none 0 0] 95 (0, 0)) z127_ hb)
 replace HB := q_ (below_step z77_ hb)
 (try clear hb)
 (try clear hb2)
 (try clear hk)
 (try clear hi)
 (try clear ho0)
 obtain ⟨Ao9, co9, eo9⟩ := Kd.R_slice HO184.out
 (first | subst eo9 | (injection eo9 with f1_ f2_ f3_; have f4_ := f1_.symm; have f5_ := f3_.symm; clear f1_ f2_ f3_; subst f4_; subst f5_))
 obtain ⟨Ao10, co10, eo10⟩ := Kd.R_slice HO181.out
 (first | subst eo10 | (injection eo10 with f1_ f2_ f3_; have f4_ := f1_.symm; have f5_ := f3_.symm; clear f1_ f2_ f3_; subst f4_; subst f5_))
 refine hK.out _ _ ⟨(blk_cell BK177.out 0).trans rfl, (blk_cell BK177.out 1).trans rfl⟩ (fun hHeld => ?_)
 clear hK K
 refine norm_ (a' := ?_) ?_ ?_
 rotate_left
 ·show Act.put _ (some 8) _ = _
  simp only [Act.put, List.setIfInBounds_toArray, List.set_cons_zero, List.set_cons_succ, i64_w, i32_w]
  rfl
 refine p1_ 6 (some 9) (tf 7 1) HT_.out ?_
 refine one_ (i := 7) (N := none) (tf 8 0) rfl rfl (one_of HT_.out (by kernel_rfl)) (by decide) (fun K hK => ?_)
 have hs11 : w8.cell? ⟨gb178, 0, none⟩ = some (.slice none 0 0) := (blk_cell BK178.out 0).trans rfl
 have hfs11 := blk_frozen BK178.out 0
 have hns11_0 := NB177_178.out
 have hms11_0 := NB178_177.out
 have hs12 : w8.cell? ⟨gb178, 1, none⟩ = some (.slice none 0 0) := (blk_cell BK178.out 1).trans rfl
 have hfs12 := blk_frozen BK178.out 1
 have hns12_0 := NB177_178.out
 have hms12_0 := NB178_177.out
 refine skip_ (w1 := ?_) (by rfl) rfl ?_ ?_
 rotate_left
 ·go_simp
  rfl
 refine hK.out _ _ ⟨((cell_far (p := ⟨gb178, _, none⟩) NB177_178.out _).trans (((cell_far (p := ⟨gb178, _, none⟩) NB177_178.out _).trans (hHeld.1)))), ((cell_far (p := ⟨gb178, _, none⟩) NB177_178.out _).trans (((cell_far (p := ⟨gb178, _, none⟩) NB177_178.out _).trans (hHeld.2))))⟩ (fun hHeld => ?_)
 clear hK K
 refine done_ (done_of HT_.out (by kernel_rfl)) ?_
 try go_wp2
 refine bodyPost_ret (results_cell_row rfl _ _ gb178 95 #[.slice Ao10 t179.length co10, .slice Ao9 t182.length co9] (0, 0) _ rfl (by (with_reducible repeat (first | refine blk_drewN ?_ _ | refine blk_drew ?_ | refine blk_alloc ?_ _)); refine blk_put (cs := #[.slice Ao10 t179.length co10, .slice none 0 0]) ?_ 1 _ rfl; (with_reducible repeat (first | refine blk_drewN ?_ _ | refine blk_drew ?_ | refine blk_alloc ?_ _)); refine blk_put (cs := #[.slice none 0 0, .slice none 0 0]) ?_ 0 _ rfl; (with_reducible repeat (first | refine blk_drewN ?_ _ | refine blk_drew ?_ | refine blk_alloc ?_ _)); exact BK178.out) Try.underlying95 rfl (by kernel_rfl)) rfl ?_
 exact ⟨_, _, z16_, by (with_reducible repeat (first | apply Kd.R_alloc | apply Kd.R_drewN | apply Kd.R_drew)); exact Kd.R_mono (Kd.R_far (p := ⟨gb178, 1, none⟩) (Kd.R_far (p := ⟨gb178, 0, none⟩) (Kd.R_types HO181.out BK178.out (by decide)) (fun _ hk => hk.2) (.slice Ao10 t179.length co10)) (fun _ hk => hk.2) (.slice Ao9 t182.length co9)) (fun _ hk => trivial), by (with_reducible repeat (first | apply Kd.R_alloc | apply Kd.R_drewN | apply Kd.R_drew)); exact Kd.R_mono (Kd.R_far (p := ⟨gb178, 1, none⟩) (Kd.R_far (p := ⟨gb178, 0, none⟩) (Kd.R_types HO184.out BK178.out (by decide)) (fun _ hk => hk.2) (.slice Ao10 t179.length co10)) (fun _ hk => hk.2) (.slice Ao9 t182.length co9)) (fun _ hk => trivial), z77_⟩

/-! ### impl_within: function 176 -/
def impl_within.f (a0 : Int) (a1 : Int) (a2 : Int) : Option (Bool) := if a0 ≥ a1 then (some (decide (a0 ≤ a2))) else (some false)
set_option maxHeartbeats 8000000 in
set_option maxRecDepth 100000 in
theorem impl_within.calls (a0 : Int) (a1 : Int) (a2 : Int) (r : Bool) (w : World) (h : impl_within.f a0 a1 a2 = some r) :
  Calls Try.prog 176 #[.int .i64 a0, .int .i64 a1, .int .i64 a2] w fun e w' => e = .returned (.bool r) ∧ Drawn0 w w' := by
 have H : (if a0 ≥ a1 then (some (decide (a0 ≤ a2))) else (some false)) = some r := h
 clear h
 by_cases c4 : a0 ≥ a1
 ·rw [if_pos c4] at H
  have c4b0 : decide (a1 ≤ a0) = true := decide_eq_true c4
  clear c4
  obtain rfl := Option.some.inj H
  go_enter Try.func176, Try.ntmps176
  go_wp2
  go_ret
  exact ⟨z30_, z64_⟩
 ·rw [if_neg c4] at H
  have c4b0 : decide (a1 ≤ a0) = false := decide_eq_false c4
  clear c4
  obtain rfl := Option.some.inj H
  go_enter Try.func176, Try.ntmps176
  go_wp2
  go_ret
  exact ⟨z30_, z64_⟩

end Go.Proofs.Ytphlmbhjeoljoaa.PFnExactDo
