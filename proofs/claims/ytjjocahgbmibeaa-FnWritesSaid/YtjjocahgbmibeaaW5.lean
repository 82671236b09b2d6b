/- Walks: the cursor of the draws, and what is drawn of numbers and messages. -/
import Derived.Test.YtjjocahgbmibeaaW4
namespace Go.Proofs.Ytjjocahgbmibeaa
open Go.Eng
set_option maxRecDepth 4000
set_option linter.unusedSimpArgs false
set_option linter.unusedVariables false
theorem s_l1Long (code : List UInt8) (a b : Int) (h : code.length ≤ 1048576) (ha : 0 ≤ a ∧ a ≤ 1000000) : RF Y 145 [.fro true 1 (code.map Bc), i64 a, i64 b] (i64 (min (a + (code.length / 4 : Nat)) b)) [] := by
  refine RF.s3 rfl rfl rfl fun Q hQ => ?_
  refine .seq <| .reg <| .mv rfl rfl <| .nil <| .seq <| .reg <| .mv rfl rfl <| .mv rfl rfl <| .len rfl rfl rfl <| .quoN (m := 4) rfl rfl rfl (by decide) (by omega) <| .add rfl rfl rfl (by omega) <| .mv rfl rfl <| .nil <| .seq <| .seq <| .reg <| .mv rfl rfl <| .mv rfl rfl <| .gtr rfl rfl rfl (fun h1 => ?_) (fun h1 => ?_)
  · refine .nil <| .condT rfl <| .seq <| .reg <| .mv rfl rfl <| .mv rfl rfl <| .nil <| .ret rfl hQ (.ie (by omega)) LeBs.refl
  · refine .nil <| .condF rfl <| .skip <| .seq <| .reg <| .mv rfl rfl <| .mv rfl rfl <| .nil <| .ret rfl hQ (.ie (by omega)) LeBs.refl
theorem s_l1New_x (code : List UInt8) (h : code.length ≤ 1048576) : RFx Y 59 [.fro true 1 (code.map Bc)] (fun r o => ∃ c', r = .obx (Cu.c c') 0 ∧ o = [] ∧ c'.ok ∧ c'.b = code) := by
  refine RFx.s1 rfl rfl rfl ?_
  refine .seq <| .reg <| .mv rfl rfl <| .nil <| .seq <| .reg <| .mv rfl rfl <| .len rfl rfl rfl <| .add rfl rfl rfl (by omega) <| .mv rfl rfl <| .nil <| .seq <| .seq <| .reg <| .mv rfl rfl <| .nil <| .block <| ?_
  refine RA.loopI fun T0 hT0 nT0 eT0 => ?_
  have L0 : ∀ (post pre : List UInt8) (h : Int) (Q : Qst), code = pre ++ post → 0 ≤ h ∧ h ≤ 1073741824 → (∀ h, Q (.obx (Cu.c ⟨code, 0, h⟩) 0) []) → RA Y a59 T0 [(0, .fro true 1 (code.map Bc)), (3, i64 h), (4, i64 pre.length)] [] 0 Q := by
    intro post
    induction post with
    | nil =>
      intro pre h Q hc hh hQ
      have hl : code.length = pre.length := by simp [hc]
      rw [eT0]
      refine .seq <| .seq <| .reg <| .mv rfl rfl <| .mv rfl rfl <| .len rfl rfl rfl <| .lssF rfl rfl rfl (by omega) <| .mv rfl rfl <| .gs rfl rfl rfl <| .gs rfl rfl rfl <| .pickF rfl rfl rfl <| .nil <| .condF rfl <| .exit rfl <| .seq <| .reg <| .mv rfl rfl <| .mv rfl rfl <| .build (cs := [_, _, _]) rfl rfl rfl <| .box rfl rfl rfl <| .mv rfl rfl <| .nil <| .ret rfl (hQ _) .r LeBs.refl
    | cons a post ih =>
      intro pre h Q hc hh hQ
      have hl : code.length = pre.length + post.length + 1 := by simp [hc]; omega
      have ha : code[pre.length]? = some a := by simp [hc]
      rw [eT0]
      refine .seq <| .seq <| .reg <| .mv rfl rfl <| .mv rfl rfl <| .len rfl rfl rfl <| .lssT rfl rfl rfl (by omega) <| .mv rfl rfl <| .g rfl rfl <| .mv rfl rfl <| .g rfl rfl <| .lss rfl rfl rfl (fun h2 => ?_) (fun h2 => ?_)
      · have hu := a.toNat_lt
        refine .pickT rfl rfl rfl <| .nil <| .condT rfl <| .skip <| .seq <| .block <| .reg <| .mv rfl rfl <| .mul rfl rfl rfl (by omega) <| .mv rfl rfl <| .mv rfl rfl <| .ia rfl rfl rfl (by assumption) <| .ldF rfl rfl rfl <| .cv8 rfl rfl <| .add rfl rfl rfl (by omega) <| .add rfl rfl rfl (by omega) <| .andL (n := 1073741823) rfl rfl rfl (by decide) <| fun z hz1 hz2 => .mv rfl rfl <| .nil <| .inBlock <| .reg <| .mv rfl rfl <| .add rfl rfl rfl (by omega) <| .mv rfl rfl <| .nil <| hT0 <| ?_
        exact RA.wq [] (ih (pre ++ [a]) z _ (by simp [hc]) (by omega) hQ) nT0
      · refine .pickT rfl rfl rfl <| .nil <| .condF rfl <| .exit rfl <| .seq <| .reg <| .mv rfl rfl <| .mv rfl rfl <| .build (cs := [_, _, _]) rfl rfl rfl <| .box rfl rfl rfl <| .mv rfl rfl <| .nil <| .ret rfl (hQ _) .r LeBs.refl
  exact RA.wq [] (L0 code [] (18665 + code.length) _ rfl (by omega) (fun g => ⟨⟨code, 0, g⟩, rfl, rfl, ⟨Int.le_refl _, Int.natCast_nonneg _, h⟩, rfl⟩)) nT0
theorem s_l1New (code : List UInt8) (h : code.length ≤ 1048576) : ∃ c', (c'.ok ∧ c'.b = code) ∧ RF Y 59 [.fro true 1 (code.map Bc)] (.obx (Cu.c c') 0) [] := by
  obtain ⟨r, o, ⟨c', rfl, rfl, hp⟩, hr⟩ := s_l1New_x code h
  exact ⟨c', hp, hr⟩
theorem s_l1Byte_x (c : Cu) (hc : c.ok) : RFx Y 129 [.obx (Cu.c c) 0] (fun r o => ∃ x c', r = i64 x ∧ o = [.obx (Cu.c c') 0] ∧ 0 ≤ x ∧ x ≤ 255 ∧ c'.ok ∧ c'.b = c.b) := by
  refine RFx.s1 rfl rfl rfl ?_
  obtain ⟨hc0, hc1, hc2⟩ := hc
  refine .seq <| .reg <| .mv rfl rfl <| .nil <| .seq <| .reg <| .mv rfl rfl <| .mv rfl rfl <| .nc rfl rfl <| .fa rfl rfl <| .ldE rfl rfl rfl rfl <| .any rfl rfl <| fun z1 => .any rfl rfl <| fun z2 => .nc rfl rfl <| .fa rfl rfl <| .st1 rfl rfl rfl rfl rfl (of_decide_eq_true rfl) <| .nil <| .seq <| .regD <| .mv rfl rfl <| .nc rfl rfl <| .fa rfl rfl <| .ldE rfl rfl rfl rfl <| .any rfl rfl <| fun z3 => .mv rfl rfl <| .nc rfl rfl <| .fa rfl rfl <| .ldE rfl rfl rfl rfl <| .any rfl rfl <| fun z4 => .any rfl rfl <| fun z5 => .andL (n := 255) rfl rfl rfl (by decide) <| fun x hx1 hx2 => .mv rfl rfl <| .nil (by kernel_rfl) <| .seq <| .seq <| .regD <| .mv rfl rfl <| .nc rfl rfl <| .fa rfl rfl <| .ldE rfl rfl rfl rfl <| .mv rfl rfl <| .nc rfl rfl <| .fa rfl rfl <| .ldE rfl rfl rfl rfl <| .len rfl rfl rfl <| .lss rfl rfl rfl (fun h1 => ?_) (fun h1 => ?_)
  · have hi : c.i.toNat < c.b.length := by omega
    obtain ⟨u, hu⟩ : ∃ u, c.b[c.i.toNat]? = some u := ⟨_, getD_at hi⟩
    have hu' := u.toNat_lt
    refine .nil (by kernel_rfl) <| .condT rfl <| .seq <| .regD <| .mv rfl rfl <| .mv rfl rfl <| .nc rfl rfl <| .fa rfl rfl <| .ldE rfl rfl rfl rfl <| .mv rfl rfl <| .nc rfl rfl <| .fa rfl rfl <| .ldE rfl rfl rfl rfl <| .iaI rfl rfl rfl hc0 hu <| .ldF rfl rfl rfl <| .cv8 rfl rfl <| .add rfl rfl rfl (by omega) <| .andL (n := 255) rfl rfl rfl (by decide) <| fun y hy1 hy2 => .mv rfl rfl <| .nil (by kernel_rfl) <| .reg <| .mv rfl rfl <| .mv rfl rfl <| .nc rfl rfl <| .fa rfl rfl <| .ldE rfl rfl rfl rfl <| .add rfl rfl rfl (by omega) <| .nc rfl rfl <| .fa rfl rfl <| .st1 rfl rfl rfl rfl rfl (of_decide_eq_true rfl) <| .nil <| .seq <| .reg <| .mv rfl rfl <| .mv rfl rfl <| .nil <| .ret rfl ⟨_, ⟨c.b, c.i + 1, z2⟩, rfl, rfl, hy1, hy2, ⟨by dsimp only; omega, by dsimp only; omega, hc2⟩, rfl⟩ .r LeBs.refl
  · refine .nil (by kernel_rfl) <| .condF rfl <| .skip <| .seq <| .reg <| .mv rfl rfl <| .mv rfl rfl <| .nil <| .ret rfl ⟨_, ⟨c.b, c.i, z2⟩, rfl, rfl, hx1, hx2, ⟨hc0, hc1, hc2⟩, rfl⟩ .r LeBs.refl
theorem s_l1Byte (c : Cu) (hc : c.ok) : ∃ x c', (0 ≤ x ∧ x ≤ 255 ∧ c'.ok ∧ c'.b = c.b) ∧ RF Y 129 [.obx (Cu.c c) 0] (i64 x) [.obx (Cu.c c') 0] := by
  obtain ⟨r, o, ⟨x, c', rfl, rfl, hp⟩, hr⟩ := s_l1Byte_x c hc
  exact ⟨x, c', hp, hr⟩
theorem s_l1Below_x (c : Cu) (hc : c.ok) (n : Int) (hn : n ≤ 1000000) : RFx Y 77 [.obx (Cu.c c) 0, i64 n] (fun r o => ∃ x c', r = i64 x ∧ o = [.obx (Cu.c c') 0] ∧ 0 ≤ x ∧ (0 < n → x < n) ∧ x ≤ 1000000 ∧ c'.ok ∧ c'.b = c.b) := by
  refine RFx.s2 rfl rfl rfl ?_
  refine .seq <| .reg <| .mv rfl rfl <| .nil <| .seq <| .seq <| .reg <| .mv rfl rfl <| .leq rfl rfl rfl (fun h1 => ?_) (fun h1 => ?_)
  · refine .nil <| .condT rfl <| .seq <| .reg <| .mv rfl rfl <| .nil <| .ret rfl ⟨0, c, rfl, rfl, by omega, by omega, by omega, hc, rfl⟩ .r LeBs.refl
  · refine .nil <| .condF rfl <| .skip <| .seq <| .seq <| .reg <| .mv rfl rfl <| .leq rfl rfl rfl (fun h2 => ?_) (fun h2 => ?_)
    · refine .nil <| .condT rfl <| .seq <| .reg <| .mv rfl rfl <| ?_
      obtain ⟨x1, c1, ⟨hx1, hy1, hc1, hb1⟩, R1⟩ := s_l1Byte c hc
      refine .cPz rfl rfl rfl R1 .refl rfl rfl rfl (by decide) <| .mv rfl rfl <| .rem rfl rfl rfl (by first | decide | omega) <| .mv rfl rfl <| .nil <| .ret rfl ⟨_, c1, rfl, rfl, Int.tmod_nonneg _ (by omega), fun _ => Int.tmod_lt_of_pos _ (by omega), by have := Int.tmod_lt_of_pos x1 (show 0 < n by omega); omega, hc1, by simp only [*]⟩ .r LeBs.refl
    · refine .nil <| .condF rfl <| .skip <| .seq <| .reg <| .mv rfl rfl <| ?_
      obtain ⟨x1, c1, ⟨hx1, hy1, hc1, hb1⟩, R1⟩ := s_l1Byte c hc
      refine .cPz rfl rfl rfl R1 .refl rfl rfl rfl (by decide) <| .mv rfl rfl <| .nil <| .seq <| .reg <| .mv rfl rfl <| ?_
      obtain ⟨x2, c2, ⟨hx2, hy2, hc2, hb2⟩, R2⟩ := s_l1Byte c1 hc1
      refine .cPz rfl rfl rfl R2 .refl rfl rfl rfl (by decide) <| .mv rfl rfl <| .nil <| .seq <| .reg <| .mv rfl rfl <| ?_
      obtain ⟨x3, c3, ⟨hx3, hy3, hc3, hb3⟩, R3⟩ := s_l1Byte c2 hc2
      refine .cPz rfl rfl rfl R3 .refl rfl rfl rfl (by decide) <| .mv rfl rfl <| .nil <| .seq <| .reg <| .mv rfl rfl <| ?_
      obtain ⟨x4, c4, ⟨hx4, hy4, hc4, hb4⟩, R4⟩ := s_l1Byte c3 hc3
      refine .cPz rfl rfl rfl R4 .refl rfl rfl rfl (by decide) <| .mv rfl rfl <| .nil <| .seq <| .reg <| .mv rfl rfl <| .mul rfl rfl rfl (by omega) <| .mv rfl rfl <| .mul rfl rfl rfl (by omega) <| .add rfl rfl rfl (by omega) <| .mv rfl rfl <| .mul rfl rfl rfl (by omega) <| .add rfl rfl rfl (by omega) <| .mv rfl rfl <| .add rfl rfl rfl (by omega) <| .mv rfl rfl <| .rem rfl rfl rfl (by first | decide | omega) <| .mv rfl rfl <| .nil <| .ret rfl ⟨_, c4, rfl, rfl, Int.tmod_nonneg _ (by omega), fun _ => Int.tmod_lt_of_pos _ (by omega), by have := Int.tmod_lt_of_pos (x1 * 16777216 + x2 * 65536 + x3 * 256 + x4) (show 0 < n by omega); omega, hc4, by simp only [*]⟩ .r LeBs.refl
theorem s_l1Below (c : Cu) (hc : c.ok) (n : Int) (hn : n ≤ 1000000) : ∃ x c', (0 ≤ x ∧ (0 < n → x < n) ∧ x ≤ 1000000 ∧ c'.ok ∧ c'.b = c.b) ∧ RF Y 77 [.obx (Cu.c c) 0, i64 n] (i64 x) [.obx (Cu.c c') 0] := by
  obtain ⟨r, o, ⟨x, c', rfl, rfl, hp⟩, hr⟩ := s_l1Below_x c hc n hn
  exact ⟨x, c', hp, hr⟩
theorem s_l1Once_x (c : Cu) (hc : c.ok) (n : Int) (hn : n ≤ 1000000) : RFx Y 86 [.obx (Cu.c c) 0, i64 n] (fun r o => ∃ x c', r = .b x ∧ o = [.obx (Cu.c c') 0] ∧ c'.ok ∧ c'.b = c.b) := by
  refine RFx.s2 rfl rfl rfl ?_
  refine .seq <| .reg <| .mv rfl rfl <| .nil <| .seq <| .reg <| .mv rfl rfl <| .mv rfl rfl <| ?_
  obtain ⟨x1, c1, ⟨hx1, hy1, hz1, hc1, hb1⟩, R1⟩ := s_l1Below c hc n hn
  refine .cPz rfl rfl rfl R1 .refl rfl rfl rfl (by decide) <| .eql rfl rfl rfl (fun h1 => ?_) (fun h1 => ?_)
  · refine .mv rfl rfl <| .nil <| .ret rfl ⟨_, c1, rfl, rfl, hc1, hb1⟩ .r LeBs.refl
  · refine .mv rfl rfl <| .nil <| .ret rfl ⟨_, c1, rfl, rfl, hc1, hb1⟩ .r LeBs.refl
theorem s_l1Once (c : Cu) (hc : c.ok) (n : Int) (hn : n ≤ 1000000) : ∃ x c', (c'.ok ∧ c'.b = c.b) ∧ RF Y 86 [.obx (Cu.c c) 0, i64 n] (.b x) [.obx (Cu.c c') 0] := by
  obtain ⟨r, o, ⟨x, c', rfl, rfl, hp⟩, hr⟩ := s_l1Once_x c hc n hn
  exact ⟨x, c', hp, hr⟩
theorem s_l1PickInt_x (c : Cu) (hc : c.ok) (l : List Int) (hl : 0 < l.length ∧ l.length ≤ 1000) : RFx Y 116 [.obx (Cu.c c) 0, .fro true 1 (l.map Ic)] (fun r o => ∃ x c', r = i64 x ∧ o = [.obx (Cu.c c') 0] ∧ x ∈ l ∧ c'.ok ∧ c'.b = c.b) := by
  refine RFx.s2 rfl rfl rfl ?_
  refine .seq <| .reg <| .mv rfl rfl <| .nil <| .seq <| .reg <| .mv rfl rfl <| .mv rfl rfl <| .mv rfl rfl <| .len rfl rfl rfl <| ?_
  obtain ⟨x1, c1, ⟨hx1, hy1, hz1, hc1, hb1⟩, R1⟩ := s_l1Below c hc (l.length : Nat) (by omega)
  obtain ⟨a, ha⟩ : ∃ a, l[x1.toNat]? = some a := ⟨_, getD_at (by have := hy1 (by omega); omega)⟩
  refine .cPz rfl rfl rfl R1 .refl rfl rfl rfl (by decide) <| .iaI rfl rfl rfl (by omega) (by assumption) <| .ldF rfl rfl rfl <| .mv rfl rfl <| .nil <| .ret rfl ⟨_, c1, rfl, rfl, List.mem_of_getElem? ha, hc1, hb1⟩ .r LeBs.refl
theorem s_l1PickInt (c : Cu) (hc : c.ok) (l : List Int) (hl : 0 < l.length ∧ l.length ≤ 1000) : ∃ x c', (x ∈ l ∧ c'.ok ∧ c'.b = c.b) ∧ RF Y 116 [.obx (Cu.c c) 0, .fro true 1 (l.map Ic)] (i64 x) [.obx (Cu.c c') 0] := by
  obtain ⟨r, o, ⟨x, c', rfl, rfl, hp⟩, hr⟩ := s_l1PickInt_x c hc l hl
  exact ⟨x, c', hp, hr⟩
theorem s_l1DrawKey_x (c : Cu) (hc : c.ok) : RFx Y 61 [.obx (Cu.c c) 0] (fun r o => ∃ x c', r = i64 x ∧ o = [.obx (Cu.c c') 0] ∧ 0 ≤ x ∧ x ≤ 999 ∧ c'.ok ∧ c'.b = c.b) := by
  refine RFx.s1 rfl rfl rfl ?_
  refine .seq <| .reg <| .mv rfl rfl <| .nil <| .seq <| .seq <| .reg <| .mv rfl rfl <| ?_
  obtain ⟨x1, c1, ⟨hc1, hb1⟩, R1⟩ := s_l1Once c hc 15 (by decide)
  refine .cPz rfl rfl rfl R1 .refl rfl rfl rfl (by decide) <| .bB (fun h1 => ?_) (fun h1 => ?_)
  · refine .nil <| .condT rfl <| .seq <| .reg <| .mv rfl rfl <| .rows (xs := [[_], [_], [_]]) (u := []) rfl rfl rfl rfl rfl rfl <| ?_
    obtain ⟨x2, c2, ⟨hx2, hc2, hb2⟩, R2⟩ := s_l1PickInt c1 hc1 [0, 999, 500] (by simp)
    refine .cPz rfl rfl rfl R2 (.c .r (.c (.fz (.rw (fun h => h))) .n)) rfl rfl rfl (by decide) <| .mv rfl rfl <| .nil <| .ret rfl ⟨_, c2, rfl, rfl, by simp at hx2; omega, by simp at hx2; omega, hc2, by simp only [*]⟩ .r LeBs.refl
  · refine .nil <| .condF rfl <| .skip <| .seq <| .reg <| .mv rfl rfl <| ?_
    obtain ⟨x2, c2, ⟨hx2, hy2, hz2, hc2, hb2⟩, R2⟩ := s_l1Below c1 hc1 30 (by decide)
    refine .cPz rfl rfl rfl R2 .refl rfl rfl rfl (by decide) <| .mv rfl rfl <| .nil <| .ret rfl ⟨_, c2, rfl, rfl, by omega, by have := hy2 (by decide); omega, hc2, by simp only [*]⟩ .r LeBs.refl
theorem s_l1DrawKey (c : Cu) (hc : c.ok) : ∃ x c', (0 ≤ x ∧ x ≤ 999 ∧ c'.ok ∧ c'.b = c.b) ∧ RF Y 61 [.obx (Cu.c c) 0] (i64 x) [.obx (Cu.c c') 0] := by
  obtain ⟨r, o, ⟨x, c', rfl, rfl, hp⟩, hr⟩ := s_l1DrawKey_x c hc
  exact ⟨x, c', hp, hr⟩
theorem s_l1DrawMsg_x (c : Cu) (hc : c.ok) : RFx Y 147 [.obx (Cu.c c) 0] (fun r o => ∃ m c', r = .agg (Ms.c m) ∧ o = [.obx (Cu.c c') 0] ∧ m.ok = true ∧ c'.ok ∧ c'.b = c.b) := by
  refine RFx.s1 rfl rfl rfl ?_
  refine .seq <| .reg <| .new rfl <| .nil <| .seq <| .reg <| .mv rfl rfl <| .rows (xs := [[_], [_], [_], [_], [_], [_], [_]]) (u := []) rfl rfl rfl rfl rfl rfl <| ?_
  obtain ⟨x1, c1, ⟨hx1, hc1, hb1⟩, R1⟩ := s_l1PickInt c hc [1, 1, 1, 2, 3, 3, 4] (by simp)
  refine .cPz rfl rfl rfl R1 (.c .r (.c (.fz (.rw (fun h => h))) .n)) rfl rfl rfl (by decide) <| .mv rfl rfl <| ?_
  obtain ⟨x2, c2, ⟨hx2, hy2, hc2, hb2⟩, R2⟩ := s_l1DrawKey c1 hc1
  refine .cPz rfl rfl rfl R2 .refl rfl rfl rfl (by decide) <| .build (cs := [_, _, _]) rfl rfl rfl <| .new rfl <| .stA rfl rfl rfl rfl rfl rfl <| .nil <| .seq <| .seq <| .reg <| .fa rfl rfl <| .ldE rfl rfl rfl rfl <| .eql rfl rfl rfl (fun h1 => ?_) (fun h1 => ?_)
  · refine .mv rfl rfl <| .gs rfl rfl rfl <| .gs rfl rfl rfl <| .gs rfl rfl rfl <| .pickT rfl rfl rfl <| .nil <| .condT rfl <| .reg <| .mv rfl rfl <| .mv rfl rfl <| ?_
    obtain ⟨x3, c3, ⟨hx3, hy3, hz3, hc3, hb3⟩, R3⟩ := s_l1Below c2 hc2 99 (by decide)
    refine .cPz rfl rfl rfl R3 .refl rfl rfl rfl (by decide) <| .rows (xs := [[_], [_], [_], [_], [_], [_], [_]]) (u := []) rfl rfl rfl rfl rfl rfl <| ?_
    obtain ⟨x4, c4, ⟨hx4, hc4, hb4⟩, R4⟩ := s_l1PickInt c3 hc3 [1, -2, 5, 700, 1000000000, -1000000000, x3] (by simp)
    refine .cPz rfl rfl rfl R4 (.c .r (.c (.fz (.rw (fun h => h))) .n)) rfl rfl rfl (by decide) <| .fa rfl rfl <| .st1 rfl rfl rfl rfl rfl (of_decide_eq_true rfl) <| .nil <| .seq <| .reg <| .aE rfl rfl rfl rfl <| .stA rfl rfl rfl rfl rfl rfl <| .nil <| .ret rfl ⟨⟨x1, x2, x4⟩, c4, rfl, rfl, by simp only [Ms.ok, decide_eq_true_eq]; simp at hx1 hx4; omega, hc4, by simp only [*]⟩ .r LeBs.refl
  · refine .mv rfl rfl <| .g rfl rfl <| .fa rfl rfl <| .g rfl rfl <| .ldE rfl rfl rfl rfl <| .g rfl rfl <| .eql rfl rfl rfl (fun h2 => ?_) (fun h2 => ?_)
    · refine .pickF rfl rfl rfl <| .nil <| .condT rfl <| .reg <| .mv rfl rfl <| .mv rfl rfl <| ?_
      obtain ⟨x3, c3, ⟨hx3, hy3, hz3, hc3, hb3⟩, R3⟩ := s_l1Below c2 hc2 99 (by decide)
      refine .cPz rfl rfl rfl R3 .refl rfl rfl rfl (by decide) <| .rows (xs := [[_], [_], [_], [_], [_], [_], [_]]) (u := []) rfl rfl rfl rfl rfl rfl <| ?_
      obtain ⟨x4, c4, ⟨hx4, hc4, hb4⟩, R4⟩ := s_l1PickInt c3 hc3 [1, -2, 5, 700, 1000000000, -1000000000, x3] (by simp)
      refine .cPz rfl rfl rfl R4 (.c .r (.c (.fz (.rw (fun h => h))) .n)) rfl rfl rfl (by decide) <| .fa rfl rfl <| .st1 rfl rfl rfl rfl rfl (of_decide_eq_true rfl) <| .nil <| .seq <| .reg <| .aE rfl rfl rfl rfl <| .stA rfl rfl rfl rfl rfl rfl <| .nil <| .ret rfl ⟨⟨x1, x2, x4⟩, c4, rfl, rfl, by simp only [Ms.ok, decide_eq_true_eq]; simp at hx1 hx4; omega, hc4, by simp only [*]⟩ .r LeBs.refl
    · refine .pickF rfl rfl rfl <| .nil <| .condF rfl <| .skip <| .seq <| .reg <| .aE rfl rfl rfl rfl <| .stA rfl rfl rfl rfl rfl rfl <| .nil <| .ret rfl ⟨⟨x1, x2, 0⟩, c2, rfl, rfl, by (simp [Ms.ok]; simp at hx1; omega), hc2, by simp only [*]⟩ .r LeBs.refl
theorem s_l1DrawMsg (c : Cu) (hc : c.ok) : ∃ m c', (m.ok = true ∧ c'.ok ∧ c'.b = c.b) ∧ RF Y 147 [.obx (Cu.c c) 0] (.agg (Ms.c m)) [.obx (Cu.c c') 0] := by
  obtain ⟨r, o, ⟨m, c', rfl, rfl, hp⟩, hr⟩ := s_l1DrawMsg_x c hc
  exact ⟨m, c', hp, hr⟩
theorem s_l1DrawBad_x (c : Cu) (hc : c.ok) : RFx Y 113 [.obx (Cu.c c) 0] (fun r o => ∃ m c', r = .agg (Ms.c m) ∧ o = [.obx (Cu.c c') 0] ∧ (-1000000001 ≤ m.op ∧ m.op ≤ 1000000001 ∧ -1000000001 ≤ m.k ∧ m.k ≤ 1000000001 ∧ -1000000001 ≤ m.v ∧ m.v ≤ 1000000001) ∧ c'.ok ∧ c'.b = c.b) := by
  refine RFx.s1 rfl rfl rfl ?_
  refine .seq <| .reg <| .new rfl <| .nil <| .seq <| .reg <| .mv rfl rfl <| ?_
  obtain ⟨m, c1, ⟨hm, hc1, hb1⟩, R1⟩ := s_l1DrawMsg c hc
  have hm' := hm
  simp only [Ms.ok, decide_eq_true_eq] at hm'
  refine .cPz rfl rfl rfl R1 .refl rfl rfl rfl (by decide) <| .new rfl <| .stA rfl rfl rfl rfl rfl rfl <| .nil <| .seq <| .seq <| .reg <| .mv rfl rfl <| ?_
  obtain ⟨x2, c2, ⟨hx2, hy2, hz2, hc2, hb2⟩, R2⟩ := s_l1Below c1 hc1 15 (by decide)
  refine .cPz rfl rfl rfl R2 .refl rfl rfl rfl (by decide) <| .nil <| .block <| .seq <| .reg <| .eql rfl rfl rfl (fun h1 => ?_) (fun h1 => ?_)
  · refine .mv rfl rfl <| .nil <| .condT rfl <| .reg <| .mv rfl rfl <| ?_
    obtain ⟨x3, c3, ⟨hx3, hy3, hz3, hc3, hb3⟩, R3⟩ := s_l1Below c2 hc2 7 (by decide)
    refine .cPz rfl rfl rfl R3 .refl rfl rfl rfl (by decide) <| .sub rfl rfl rfl (by omega) <| .fa rfl rfl <| .st1 rfl rfl rfl rfl rfl (of_decide_eq_true rfl) <| .nil <| .inBlock <| .seq <| .reg <| .aE rfl rfl rfl rfl <| .stA rfl rfl rfl rfl rfl rfl <| .nil <| .ret rfl ⟨⟨x3 - 1, m.k, m.v⟩, c3, rfl, rfl, by have := hy3 (by decide); refine ⟨?_, ?_, ?_, ?_, ?_, ?_⟩ <;> dsimp only <;> omega, hc3, by simp only [*]⟩ .r LeBs.refl
  · refine .mv rfl rfl <| .nil <| .condF rfl <| .seq <| .reg <| .eql rfl rfl rfl (fun h2 => ?_) (fun h2 => ?_)
    · refine .mv rfl rfl <| .nil <| .condT rfl <| .reg <| .mv rfl rfl <| .rows (xs := [[_], [_]]) (u := []) rfl rfl rfl rfl rfl rfl <| ?_
      obtain ⟨x3, c3, ⟨hx3, hc3, hb3⟩, R3⟩ := s_l1PickInt c2 hc2 [-1, 1000] (by simp)
      refine .cPz rfl rfl rfl R3 (.c .r (.c (.fz (.rw (fun h => h))) .n)) rfl rfl rfl (by decide) <| .fa rfl rfl <| .st1 rfl rfl rfl rfl rfl (of_decide_eq_true rfl) <| .nil <| .inBlock <| .seq <| .reg <| .aE rfl rfl rfl rfl <| .stA rfl rfl rfl rfl rfl rfl <| .nil <| .ret rfl ⟨⟨m.op, x3, m.v⟩, c3, rfl, rfl, by simp at hx3; refine ⟨?_, ?_, ?_, ?_, ?_, ?_⟩ <;> dsimp only <;> omega, hc3, by simp only [*]⟩ .r LeBs.refl
    · refine .mv rfl rfl <| .nil <| .condF rfl <| .seq <| .reg <| .eql rfl rfl rfl (fun h3 => ?_) (fun h3 => ?_)
      · refine .mv rfl rfl <| .nil <| .condT rfl <| .reg <| .mv rfl rfl <| .rows (xs := [[_], [_]]) (u := []) rfl rfl rfl rfl rfl rfl <| ?_
        obtain ⟨x3, c3, ⟨hx3, hc3, hb3⟩, R3⟩ := s_l1PickInt c2 hc2 [1000000001, 3] (by simp)
        refine .cPz rfl rfl rfl R3 (.c .r (.c (.fz (.rw (fun h => h))) .n)) rfl rfl rfl (by decide) <| .fa rfl rfl <| .st1 rfl rfl rfl rfl rfl (of_decide_eq_true rfl) <| .nil <| .inBlock <| .seq <| .reg <| .aE rfl rfl rfl rfl <| .stA rfl rfl rfl rfl rfl rfl <| .nil <| .ret rfl ⟨⟨m.op, m.k, x3⟩, c3, rfl, rfl, by simp at hx3; refine ⟨?_, ?_, ?_, ?_, ?_, ?_⟩ <;> dsimp only <;> omega, hc3, by simp only [*]⟩ .r LeBs.refl
      · refine .mv rfl rfl <| .nil <| .condF rfl <| .skip <| .inBlock <| .seq <| .reg <| .aE rfl rfl rfl rfl <| .stA rfl rfl rfl rfl rfl rfl <| .nil <| .ret rfl ⟨m, c2, rfl, rfl, by refine ⟨?_, ?_, ?_, ?_, ?_, ?_⟩ <;> omega, hc2, by simp only [*]⟩ .r LeBs.refl
theorem s_l1DrawBad (c : Cu) (hc : c.ok) : ∃ m c', ((-1000000001 ≤ m.op ∧ m.op ≤ 1000000001 ∧ -1000000001 ≤ m.k ∧ m.k ≤ 1000000001 ∧ -1000000001 ≤ m.v ∧ m.v ≤ 1000000001) ∧ c'.ok ∧ c'.b = c.b) ∧ RF Y 113 [.obx (Cu.c c) 0] (.agg (Ms.c m)) [.obx (Cu.c c') 0] := by
  obtain ⟨r, o, ⟨m, c', rfl, rfl, hp⟩, hr⟩ := s_l1DrawBad_x c hc
  exact ⟨m, c', hp, hr⟩
end Go.Proofs.Ytjjocahgbmibeaa
