/- Walks: drawn disks and writes. -/
import Derived.Test.YtjjocahgbmibeaaW26
import Derived.Test.YtjjocahgbmibeaaW9
namespace Go.Proofs.Ytjjocahgbmibeaa
open Go.Eng
set_option maxRecDepth 4000
set_option linter.unusedSimpArgs false
set_option linter.unusedVariables false
theorem _root_.Go.Eng.RD.cvSt {Y : EngSys} {fn : AFn} {ops rest : List AOper} {i : Nat} {tr : List (List Nat × List Nat)} {ps : List (Nat × Nat)} {k : List AItem} {env : Env'} {mem : Mem'} {next d : Nat} {Q : Qst} {x : AOpd} {fl : Bool} {xs : List (List AV)} {bs : List UInt8} {w : AV} (hw : xs = bs.map Bc) (h : ops = ⟨some d, .cvS x, none⟩ :: rest) (hx : x.lk env = some w) (hs : sliceOf (Eng.look mem) 1 w = some (fl, xs)) (h' : RD Y fn rest (i + 1) (tr ++ [(touchOf (Eng.look mem) ((AOp.cvS x : AOp AOpd).map (AOpd.get (E env))), (([] : Ups).map (·.1)))]) ps k ((d, .s ⟨bs.toArray⟩) :: env) mem next Q) : RD Y fn ops i tr ps k env mem next Q :=
  RD.p h (by simp only [AOp.map, act, AOpd.lk_get hx, hs, Option.bind_some]; rw [hw, bytes_of]; rfl) h'
theorem Dk.B.set_p {d : Dk} (h : d.B) {n : Nat} {s : ByteArray} (hs : s.size ≤ 1000000) : (Dk.mk (d.pages.set n s) d.sups).B :=
  ⟨by simpa using h.1, h.2.1, fun p hp => by
    rcases List.mem_or_eq_of_mem_set hp with q | q
    · exact h.2.2 p q
    · subst q; exact hs⟩
theorem Dk.B.take_p {d : Dk} (h : d.B) (n : Nat) : (Dk.mk (d.pages.take n) d.sups).B :=
  ⟨by have := h.1; simp; omega, h.2.1, fun p hp => h.2.2 p (List.mem_of_mem_take hp)⟩
theorem s_l6DrawRight_x (c : Cu) (hc : c.ok) (code : List UInt8) (h : code.length ≤ 1048576) : RFx Y 175 [.obx (Cu.c c) 0, .fro true 1 (code.map Bc)] (fun r o => ∃ (d : Dk) (c' : Cu), r = d.o ∧ o = [.obx (Cu.c c') 0] ∧ d.F ∧ c'.ok ∧ c'.b = c.b) := by
  refine RFx.s2 rfl rfl rfl ?_
  refine .seq <| .reg <| .new rfl <| .nil <| .seq <| .reg <| .mv rfl rfl <| .mv rfl rfl <| ?_
  obtain ⟨t, c1, ⟨ht, hw, hqq, hc1, hb1⟩, R1⟩ := s_l2DrawRight c hc code h
  have hts := ok_sz ht
  refine .cPz rfl rfl rfl R1 .refl rfl rfl rfl (by decide) <| .new rfl <| .stA rfl rfl rfl rfl rfl rfl <| .nil <| .seq <| .reg <| .aE rfl rfl rfl rfl <| ?_
  obtain ⟨d, ok, hdF, R2⟩ := s_DiskNew t (by omega)
  refine .c rfl rfl rfl R2 (.c (.trF _) .n) rfl rfl rfl (by decide) <| .mv rfl rfl <| .ex rfl rfl rfl <| .ex rfl rfl rfl <| .new rfl <| .stA rfl rfl rfl rfl rfl rfl <| .mv rfl rfl <| .nil <| .seq <| .seq <| .reg <| .mv rfl rfl <| .nil <| .block <| ?_
  refine RA.loopI fun T0 hT0 nT0 eT0 => ?_
  have L0 : ∀ (f i : Nat) (c1 : Cu) (t : Tr) (e : Dk) (Q : Qst), i + f = 3 → c1.ok → c1.b = c.b → treeOk t = true → t.w ≤ 181 + 2 * i → t.q ≤ 91 + i → e.F → (∀ (c' : Cu) (e' : Dk), c'.ok → c'.b = c.b → e'.F → Q e'.o [.obx (Cu.c c') 0]) →
      RA Y a175 T0 [(0, .elt 0 0 0), (4, .elt 1 0 0), (5, .elt 2 0 0), (6, .elt 7 0 0), (8, i64 i)] [(0, .box (Cu.c c1)), (1, .box [.emp, .emp]), (2, .box [.b t.leaf, .row 3, .row 4, .row 5, .row 6]), (3, .row true 2 0 (t.ps.map Pr.c)), (4, .row true 1 0 (t.cs.map Ic)), (5, .row false 5 0 (t.ks.map Tr.e)), (6, .row true 3 0 (t.bs.map Ms.c)), (7, .box [.row 8, .row 9]), (8, .row true 1 0 (e.pages.map Sc)), (9, .row true 2 0 (e.sups.map Su.c))] 10 Q := by
    intro f
    induction f using Nat.strongRecOn with
    | _ f IH =>
      intro i c1 t e Q hi hc1 hcb ht hw hqq hF hQ
      have hts := ok_sz ht
      have hep := hF.1.1
      have hes := hF.1.2.1
      rw [eT0]
      refine .seq <| .seq <| .reg <| .mv rfl rfl <| .mv rfl rfl <| ?_
      obtain ⟨x2, c2, ⟨hx2, hy2, hz2, hc2, hb2⟩, R2⟩ := s_l1Below c1 hc1 3 (by decide)
      have hy2 := hy2 (by decide)
      refine .cPz rfl rfl rfl R2 .refl rfl rfl rfl (by decide) <| .lss rfl rfl rfl (fun h1 => ?_) (fun h1 => ?_)
      · refine .nil <| .condT rfl <| .skip <| .seq <| .block <| .seq <| .regD <| .aE rfl rfl rfl rfl <| .mv rfl rfl <| ?_
        obtain ⟨m, c3, ⟨hm, hc3, hb3⟩, R3⟩ := s_l1DrawMsg c2 hc2
        obtain ⟨hj1, hj2⟩ := inject_ok m ht
        have hj3 := inject_q m ht (by omega)
        have hj4 := ok_sz hj1
        refine .cPz rfl rfl rfl R3 .refl rfl rfl rfl (by decide) <| .cz rfl rfl rfl (s_Inject t m (by omega) (fun _ => by omega)) (.c (.trF _) (.c .r .n)) rfl rfl rfl (by decide) <| .stA rfl rfl rfl rfl rfl rfl <| .nil (by kernel_rfl) <| .seq <| .reg <| .aE rfl rfl rfl rfl <| .aE rfl rfl rfl rfl <| ?_
        obtain ⟨ls, ok, ⟨hls, hln⟩, R4⟩ := s_Plan e hF.1 (inject t m) (by omega)
        refine .c rfl rfl rfl R4 (.c .r (.c (.trF _) .n)) rfl rfl rfl (by decide) <| .mv rfl rfl <| .ex rfl rfl rfl <| .ex rfl rfl rfl <| .bB (fun h2 => ?_) (fun h2 => ?_)
        · refine .mv rfl rfl <| .mv rfl rfl <| .nil <| .seq <| .reg <| .mv rfl rfl <| .nil <| .condT rfl <| .reg <| .aE rfl rfl rfl rfl <| .mv rfl rfl <| .c rfl rfl rfl (s_Do e ls hep hes (by omega)) (.c .r (.c (.fz (.rw (fun h => h))) .n)) rfl rfl rfl (by decide) <| .stA rfl rfl rfl rfl rfl rfl <| .nil <| .inBlock <| .reg <| .mv rfl rfl <| .add rfl rfl rfl (by omega) <| .mv rfl rfl <| .nil <| hT0 <| ?_
          exact RA.ws [_, _, _, _, _, _, _, _, _, _] (IH (f - 1) (by omega) (i + 1) c3 (inject t m) (doAll e ls) _ (by omega) hc3 (by simp only [*]) hj1 (by omega) (by omega) (hF.do hls) hQ) nT0 (by exact .l rfl rfl rfl <| .l rfl rfl rfl <| .l rfl rfl rfl <| .l rfl rfl rfl <| .i rfl (by omega) .nil) (by exact .b rfl rfl (.same rfl) <| .b rfl rfl (.same rfl) <| .b rfl rfl (.box5 (.v .refl rfl) (.row rfl) (.row rfl) (.row rfl) (.row rfl)) <| .r rfl rfl (fun _ => rfl) <| .r rfl rfl (fun _ => rfl) <| .r rfl rfl (fun h => by cases h) <| .r rfl rfl (fun _ => rfl) <| .b rfl rfl (.box2 (.row rfl) (.row rfl)) <| .r rfl rfl (fun _ => rfl) <| .r rfl rfl (fun _ => rfl) .nil)
        · refine .mv rfl rfl <| .mv rfl rfl <| .nil <| .seq <| .reg <| .mv rfl rfl <| .nil <| .condF rfl <| .skip <| .inBlock <| .reg <| .mv rfl rfl <| .add rfl rfl rfl (by omega) <| .mv rfl rfl <| .nil <| hT0 <| ?_
          exact RA.ws [_, _, _, _, _, _, _, _, _, _] (IH (f - 1) (by omega) (i + 1) c3 (inject t m) e _ (by omega) hc3 (by simp only [*]) hj1 (by omega) (by omega) hF hQ) nT0 (by exact .l rfl rfl rfl <| .l rfl rfl rfl <| .l rfl rfl rfl <| .l rfl rfl rfl <| .i rfl (by omega) .nil) (by exact .b rfl rfl (.same rfl) <| .b rfl rfl (.same rfl) <| .b rfl rfl (.box5 (.v .refl rfl) (.row rfl) (.row rfl) (.row rfl) (.row rfl)) <| .r rfl rfl (fun _ => rfl) <| .r rfl rfl (fun _ => rfl) <| .r rfl rfl (fun h => by cases h) <| .r rfl rfl (fun _ => rfl) <| .b rfl rfl (.box2 (.row rfl) (.row rfl)) <| .r rfl rfl (fun _ => rfl) <| .r rfl rfl (fun _ => rfl) .nil)
      · refine .nil <| .condF rfl <| .exit rfl <| .seq <| .reg <| .aE rfl rfl rfl rfl <| .stA rfl rfl rfl rfl rfl rfl <| .nil <| .ret rfl (hQ c2 e hc2 (by simp only [*]) hF) (.agg2 (by first | exact .rw (fun _ => rfl) | exact .ox (by rw [List.map_set]; rfl) (fun _ => rfl)) (by first | exact .rw (fun _ => rfl) | exact .ox (by rw [List.map_set]; rfl) (fun _ => rfl))) LeBs.refl
  exact RA.ws [_, _, _, _, _, _, _, _, _, _] (L0 3 0 c1 t d _ rfl hc1 hb1 ht (by omega) (by omega) hdF (fun c' e' q1 q2 q3 => ⟨e', c', rfl, rfl, q3, q1, q2⟩)) nT0 (by exact .l rfl rfl rfl <| .l rfl rfl rfl <| .l rfl rfl rfl <| .l rfl rfl rfl <| .k rfl rfl .nil) (by exact .b rfl rfl (.same rfl) <| .b rfl rfl (.same rfl) <| .b rfl rfl (.box5 (.v .refl rfl) (.row rfl) (.row rfl) (.row rfl) (.row rfl)) <| .r rfl rfl (fun _ => rfl) <| .r rfl rfl (fun _ => rfl) <| .r rfl rfl (fun h => by cases h) <| .r rfl rfl (fun _ => rfl) <| .b rfl rfl (.box2 (.row rfl) (.row rfl)) <| .r rfl rfl (fun _ => rfl) <| .r rfl rfl (fun _ => rfl) .nil)
theorem s_l6DrawRight (c : Cu) (hc : c.ok) (code : List UInt8) (h : code.length ≤ 1048576) : ∃ (d : Dk) (c' : Cu), (d.F ∧ c'.ok ∧ c'.b = c.b) ∧ RF Y 175 [.obx (Cu.c c) 0, .fro true 1 (code.map Bc)] (d.o) [.obx (Cu.c c') 0] := by
  obtain ⟨r, o, ⟨d, c', rfl, rfl, hp⟩, hr⟩ := s_l6DrawRight_x c hc code h
  exact ⟨d, c', hp, hr⟩
end Go.Proofs.Ytjjocahgbmibeaa

namespace Go.Proofs.Ytjjocahgbmibeaa
open Go.Eng
set_option maxRecDepth 4000
set_option linter.unusedSimpArgs false
set_option linter.unusedVariables false
theorem leave_of {fn : AFn} {S : St} {r : AV} {p : AV × Ups} {q : List AV × Ups} (h1 : resOf S fn.res = some r) (h2 : expRes S.m r = some p) (h3 : expVals (Eng.putM S.m p.2) ((trues fn.modes 0).map fun t => if fn.gone.contains t then .junk else S.e t) = some q) : leave fn S = some (p.1, q.1) := by
  unfold leave
  rw [h1, Option.bind_some, h2, Option.bind_some, h3]; rfl
theorem exp_rv {m : Mem} {a b hi es es' mc mc' : Nat} {fl fl' : Bool} {xs ys : List (List AV)} (ha : m a = some (.row fl es mc xs)) (hb : Eng.putM m [(a, .dead)] b = some (.row fl' es' mc' ys)) (hh : hi ≤ ys.length) : expRes m (.agg [.row a, .view b 0 hi]) = some (.agg [.own fl es mc xs, .own fl' es' mc' (ys.take hi)], [(a, .dead), (b, .dead)]) := by
  simp [expRes, expVal, expCells, expCell, ha, hb, hh]
theorem exp_vr {m : Mem} {a b hi es es' mc mc' : Nat} {fl fl' : Bool} {xs ys : List (List AV)} (ha : m a = some (.row fl es mc xs)) (hh : hi ≤ xs.length) (hb : Eng.putM m [(a, .dead)] b = some (.row fl' es' mc' ys)) : expRes m (.agg [.view a 0 hi, .row b]) = some (.agg [.own fl es mc (xs.take hi), .own fl' es' mc' ys], [(a, .dead), (b, .dead)]) := by
  simp [expRes, expVal, expCells, expCell, ha, hb, hh]
theorem s_l6Draw_x (c : Cu) (hc : c.ok) (code : List UInt8) (h : code.length ≤ 1048576) : RFx Y 162 [.obx (Cu.c c) 0, .fro true 1 (code.map Bc)] (fun r o => ∃ (d : Dk) (c' : Cu), r = d.o ∧ o = [.obx (Cu.c c') 0] ∧ d.B ∧ c'.ok ∧ c'.b = c.b) := by
  refine RFx.s2 rfl rfl rfl ?_
  refine .seq <| .reg <| .new rfl <| .nil <| .seq <| .reg <| .mv rfl rfl <| .mv rfl rfl <| ?_
  obtain ⟨d, c1, ⟨hdF, hc1, hb1⟩, R1⟩ := s_l6DrawRight c hc code h
  have hdl := hdF.2
  refine .cPz rfl rfl rfl R1 .refl rfl rfl rfl (by decide) <| .new rfl <| .stA rfl rfl rfl rfl rfl rfl <| .nil <| .seq <| .seq <| .reg <| .fa rfl rfl <| .ldE rfl rfl rfl rfl <| .len rfl rfl rfl <| .lss rfl rfl rfl (fun h1 => ?_) (fun h1 => ?_)
  · refine .nil <| .condT rfl <| .seq <| .reg <| .aE rfl rfl rfl rfl <| .stA rfl rfl rfl rfl rfl rfl <| .nil <| .ret rfl ⟨d, c1, rfl, rfl, hdF.1, hc1, by simp only [*]⟩ (.agg2 (by first | exact .rw (fun _ => rfl) | exact .ox (by rw [List.map_set]; rfl) (fun _ => rfl)) (by first | exact .rw (fun _ => rfl) | exact .ox (by rw [List.map_set]; rfl) (fun _ => rfl))) LeBs.refl
  · have hd2 : d.pages.length = 200 ∧ d.sups.length = 2 := by
      rcases hdl with q | q
      · exact q
      · rw [q.2] at h1; simp at h1
    refine .nil <| .condF rfl <| .skip <| .seq <| .seq <| .reg <| .mv rfl rfl <| ?_
    obtain ⟨x2, c2, ⟨hx2, hy2, hz2, hc2, hb2⟩, R2⟩ := s_l1Below c1 hc1 20 (by decide)
    have hy2 := hy2 (by decide)
    refine .cPz rfl rfl rfl R2 .refl rfl rfl rfl (by decide) <| .nil <| .block <| .seq <| .reg <| .eql rfl rfl rfl (fun h2 => ?_) (fun h2 => ?_)
    · refine .mv rfl rfl <| .nil <| .condT rfl <| .regD <| .fa rfl rfl <| .ldE rfl rfl rfl rfl <| .mv rfl rfl <| ?_
      obtain ⟨x3, c3, ⟨hx3, hy3, hz3, hc3, hb3⟩, R3⟩ := s_l1Below c2 hc2 2 (by decide)
      have hy3 := hy3 (by decide)
      refine .cPz rfl rfl rfl R3 .refl rfl rfl rfl (by decide) <| .mv rfl rfl <| ?_
      obtain ⟨s0, hs0⟩ : ∃ s0, d.sups[x3.toNat]? = some s0 := ⟨_, getD_at (by omega)⟩
      obtain ⟨x4, c4, ⟨hx4, hy4, hz4, hc4, hb4⟩, R4⟩ := s_l1Below c3 hc3 5 (by decide)
      have hy4 := hy4 (by decide)
      refine .cPz rfl rfl rfl R4 .refl rfl rfl rfl (by decide) <| .sub rfl rfl rfl (by omega) <| .iaRI rfl rfl rfl rfl (by omega) (by rw [List.length_map]; omega) <| .fa rfl rfl <| .stR rfl rfl rfl rfl rfl rfl rfl (by rw [List.getElem?_map, hs0]; rfl) (of_decide_eq_true rfl) rfl <| .nil (by kernel_rfl) <| .inBlock <| .seq <| .reg <| .aE rfl rfl rfl rfl <| .stA rfl rfl rfl rfl rfl rfl <| .nil <| .ret rfl ⟨⟨d.pages, d.sups.set x3.toNat ⟨x4 - 1, s0.root⟩⟩, c4, rfl, rfl, ⟨hdF.1.1, by simpa using hdF.1.2.1, hdF.1.2.2⟩, hc4, by simp only [*]⟩ (.agg2 (by first | exact .rw (fun _ => rfl) | exact .ox (by rw [List.map_set]; rfl) (fun _ => rfl)) (by first | exact .rw (fun _ => rfl) | exact .ox (by rw [List.map_set]; rfl) (fun _ => rfl))) LeBs.refl
    · refine .mv rfl rfl <| .nil <| .condF rfl <| .seq <| .reg <| .eql rfl rfl rfl (fun h3 => ?_) (fun h3 => ?_)
      · refine .mv rfl rfl <| .nil <| .condT rfl <| .regD <| .fa rfl rfl <| .ldE rfl rfl rfl rfl <| .mv rfl rfl <| ?_
        obtain ⟨x3, c3, ⟨hx3, hy3, hz3, hc3, hb3⟩, R3⟩ := s_l1Below c2 hc2 2 (by decide)
        have hy3 := hy3 (by decide)
        refine .cPz rfl rfl rfl R3 .refl rfl rfl rfl (by decide) <| .mv rfl rfl <| .rows (xs := [[_], [_], [_], [_], [_]]) (u := []) rfl rfl rfl rfl rfl rfl <| ?_
        obtain ⟨s0, hs0⟩ : ∃ s0, d.sups[x3.toNat]? = some s0 := ⟨_, getD_at (by omega)⟩
        obtain ⟨x4, c4, ⟨hx4, hc4, hb4⟩, R4⟩ := s_l1PickInt c3 hc3 [-1, 0, 1, 199, 200] (by decide)
        refine .cPz rfl rfl rfl R4 (.c .r (.c (.fz (.rw (fun h => h))) .n)) rfl rfl rfl (by decide) <| .iaRI rfl rfl rfl rfl (by omega) (by rw [List.length_map]; omega) <| .fa rfl rfl <| .stR rfl rfl rfl rfl rfl rfl rfl (by rw [List.getElem?_map, hs0]; rfl) (of_decide_eq_true rfl) rfl <| .nil (by kernel_rfl) <| .inBlock <| .seq <| .reg <| .aE rfl rfl rfl rfl <| .stA rfl rfl rfl rfl rfl rfl <| .nil <| .ret rfl ⟨⟨d.pages, d.sups.set x3.toNat ⟨s0.ver, x4⟩⟩, c4, rfl, rfl, ⟨hdF.1.1, by simpa using hdF.1.2.1, hdF.1.2.2⟩, hc4, by simp only [*]⟩ (.agg2 (by first | exact .rw (fun _ => rfl) | exact .ox (by rw [List.map_set]; rfl) (fun _ => rfl)) (by first | exact .rw (fun _ => rfl) | exact .ox (by rw [List.map_set]; rfl) (fun _ => rfl))) LeBs.refl
      · refine .mv rfl rfl <| .nil <| .condF rfl <| .seq <| .reg <| .eql rfl rfl rfl (fun h4 => ?_) (fun h4 => ?_)
        · refine .mv rfl rfl <| .nil <| .condT rfl <| .regD <| .fa rfl rfl <| .ldE rfl rfl rfl rfl <| .mv rfl rfl <| ?_
          obtain ⟨x3, c3, ⟨hx3, hy3, hz3, hc3, hb3⟩, R3⟩ := s_l1Below c2 hc2 9 (by decide)
          have hy3 := hy3 (by decide)
          obtain ⟨s0, hs0⟩ : ∃ s0, d.pages[x3.toNat]? = some s0 := ⟨_, getD_at (by omega)⟩
          refine .cPz rfl rfl rfl R3 .refl rfl rfl rfl (by decide) <| .iaRI rfl rfl rfl rfl (by omega) (by rw [List.length_map]; omega) <| .stR rfl rfl rfl rfl rfl rfl rfl (by rw [List.getElem?_map, hs0]; rfl) (of_decide_eq_true rfl) rfl <| .nil (by kernel_rfl) <| .inBlock <| .seq <| .reg <| .aE rfl rfl rfl rfl <| .stA rfl rfl rfl rfl rfl rfl <| .nil <| .ret rfl ⟨⟨d.pages.set x3.toNat ⟨#[120]⟩, d.sups⟩, c3, rfl, rfl, hdF.1.set_p (by decide), hc3, by simp only [*]⟩ (.agg2 (by first | exact .rw (fun _ => rfl) | exact .ox (by rw [List.map_set]; rfl) (fun _ => rfl)) (by first | exact .rw (fun _ => rfl) | exact .ox (by rw [List.map_set]; rfl) (fun _ => rfl))) LeBs.refl
        · refine .mv rfl rfl <| .nil <| .condF rfl <| .seq <| .reg <| .eql rfl rfl rfl (fun h5 => ?_) (fun h5 => ?_)
          · refine .mv rfl rfl <| .nil <| .condT rfl <| .reg <| .fa rfl rfl <| .ldE rfl rfl rfl rfl <| .slR rfl rfl rfl (by decide) rfl (bnd_int (by decide)) (by simp; omega) <| .fa rfl rfl <| .st1 rfl rfl rfl rfl rfl (of_decide_eq_true rfl) <| .nil <| .inBlock <| .seq <| .reg <| .aE rfl rfl rfl rfl <| .stA rfl rfl rfl rfl rfl rfl <| .nil <| .ret (leave_of rfl (exp_rv rfl rfl (by simp; omega)) rfl) ⟨⟨d.pages, d.sups.take 1⟩, c2, rfl, rfl, ⟨hdF.1.1, by simp; omega, hdF.1.2.2⟩, hc2, by simp only [*]⟩ (.agg2 (by first | exact .rw (fun _ => rfl) | exact .ox (by rw [List.map_set]; rfl) (fun _ => rfl)) (by first | exact .rw (fun _ => rfl) | exact .ox (by rw [List.map_set]; rfl) (fun _ => rfl))) LeBs.refl
          · refine .mv rfl rfl <| .nil <| .condF rfl <| .seq <| .reg <| .eql rfl rfl rfl (fun h6 => ?_) (fun h6 => ?_)
            · refine .mv rfl rfl <| .nil <| .condT rfl <| .regD <| .fa rfl rfl <| .ldE rfl rfl rfl rfl <| .mv rfl rfl <| ?_
              obtain ⟨x3, c3, ⟨hx3, hy3, hz3, hc3, hb3⟩, R3⟩ := s_l1Below c2 hc2 12 (by decide)
              have hy3 := hy3 (by decide)
              refine .cPz rfl rfl rfl R3 .refl rfl rfl rfl (by decide) <| .slR rfl rfl rfl (by decide) rfl (bnd_int (by omega)) (by simp; omega) <| .fa rfl rfl <| .st1 rfl rfl rfl rfl rfl (of_decide_eq_true rfl) <| .nil (by kernel_rfl) <| .inBlock <| .seq <| .reg <| .aE rfl rfl rfl rfl <| .stA rfl rfl rfl rfl rfl rfl <| .nil <| .ret (leave_of rfl (exp_vr rfl (by simp; omega) rfl) rfl) ⟨⟨d.pages.take x3.toNat, d.sups⟩, c3, rfl, rfl, hdF.1.take_p _, hc3, by simp only [*]⟩ (.agg2 (by first | exact .rw (fun _ => rfl) | exact .ox (by rw [List.map_set]; rfl) (fun _ => rfl)) (by first | exact .rw (fun _ => rfl) | exact .ox (by rw [List.map_set]; rfl) (fun _ => rfl))) LeBs.refl
            · refine .mv rfl rfl <| .nil <| .condF rfl <| .seq <| .reg <| .eql rfl rfl rfl (fun h7 => ?_) (fun h7 => ?_)
              · refine .mv rfl rfl <| .nil <| .condT rfl <| .regD <| .fa rfl rfl <| .ldE rfl rfl rfl rfl <| .mv rfl rfl <| ?_
                obtain ⟨x3, c3, ⟨hx3, hy3, hz3, hc3, hb3⟩, R3⟩ := s_l1Below c2 hc2 9 (by decide)
                have hy3 := hy3 (by decide)
                obtain ⟨s0, hs0⟩ : ∃ s0, d.pages[x3.toNat]? = some s0 := ⟨_, getD_at (by omega)⟩
                refine .cPz rfl rfl rfl R3 .refl rfl rfl rfl (by decide) <| .rows (xs := [[_], [_], [_], [_], [_], [_]]) (u := []) rfl rfl rfl rfl rfl rfl <| .cvSt (bs := [0, 4, 0, 2, 10, 0]) rfl rfl rfl rfl <| .iaRI rfl rfl rfl rfl (by omega) (by rw [List.length_map]; omega) <| .stR rfl rfl rfl rfl rfl rfl rfl (by rw [List.getElem?_map, hs0]; rfl) (of_decide_eq_true rfl) rfl <| .nil (by kernel_rfl) <| .inBlock <| .seq <| .reg <| .aE rfl rfl rfl rfl <| .stA rfl rfl rfl rfl rfl rfl <| .nil <| .ret rfl ⟨⟨d.pages.set x3.toNat ⟨#[0, 4, 0, 2, 10, 0]⟩, d.sups⟩, c3, rfl, rfl, hdF.1.set_p (by decide), hc3, by simp only [*]⟩ (.agg2 (by first | exact .rw (fun _ => rfl) | exact .ox (by rw [List.map_set]; rfl) (fun _ => rfl)) (by first | exact .rw (fun _ => rfl) | exact .ox (by rw [List.map_set]; rfl) (fun _ => rfl))) LeBs.refl
              · refine .mv rfl rfl <| .nil <| .condF rfl <| .skip <| .inBlock <| .seq <| .reg <| .aE rfl rfl rfl rfl <| .stA rfl rfl rfl rfl rfl rfl <| .nil <| .ret rfl ⟨d, c2, rfl, rfl, hdF.1, hc2, by simp only [*]⟩ (.agg2 (by first | exact .rw (fun _ => rfl) | exact .ox (by rw [List.map_set]; rfl) (fun _ => rfl)) (by first | exact .rw (fun _ => rfl) | exact .ox (by rw [List.map_set]; rfl) (fun _ => rfl))) LeBs.refl
theorem s_l6Draw (c : Cu) (hc : c.ok) (code : List UInt8) (h : code.length ≤ 1048576) : ∃ (d : Dk) (c' : Cu), (d.B ∧ c'.ok ∧ c'.b = c.b) ∧ RF Y 162 [.obx (Cu.c c) 0, .fro true 1 (code.map Bc)] (d.o) [.obx (Cu.c c') 0] := by
  obtain ⟨r, o, ⟨d, c', rfl, rfl, hp⟩, hr⟩ := s_l6Draw_x c hc code h
  exact ⟨d, c', hp, hr⟩
end Go.Proofs.Ytjjocahgbmibeaa
