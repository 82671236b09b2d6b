/- Walks: trees drawn. -/
import Derived.Test.YtjjocahgbmibeaaW7
import Derived.Test.YtjjocahgbmibeaaA5
namespace Go.Proofs.Ytjjocahgbmibeaa
open Go.Eng
set_option maxRecDepth 4000
set_option linter.unusedSimpArgs false
set_option linter.unusedVariables false
theorem inject_ok {t : Tr} (m : Ms) (h : treeOk t = true) : treeOk (inject t m) = true ∧ (inject t m).w ≤ t.w + 2 := by
  obtain ⟨h1, h2, h3⟩ := treeOk_wf h
  obtain ⟨g1, g2⟩ := give_wf (tdepth t) t [m] h1
  obtain ⟨_, r2⟩ := root_wf (show 0 < tdepth t from h2) g1
  rw [List.length_singleton] at g2
  unfold inject
  split
  · split
    · rename_i hk; exact ⟨hk, by omega⟩
    · exact ⟨h, by omega⟩
  · exact ⟨h, by omega⟩
theorem drain_ok {t : Tr} (h : treeOk t = true) : treeOk (drain t) = true ∧ (drain t).w ≤ t.w := by
  obtain ⟨h1, h2, h3⟩ := treeOk_wf h
  obtain ⟨g1, g2⟩ := drainG_wf (tdepth t) t h1
  obtain ⟨_, r2⟩ := root_wf (show 0 < tdepth t from h2) g1
  unfold drain
  rw [if_pos h]
  split
  · rename_i hk; exact ⟨hk, by omega⟩
  · exact ⟨h, Nat.le_refl _⟩
theorem ok_sz {t : Tr} (h : treeOk t = true) : t.sz + 2 ≤ 3 * t.w := (treeOk_wf h).1.sz
theorem Tr.w_le (t : Tr) : t.w ≤ 1 + t.ps.length + 2 * t.bs.length + Tr.wL t.ks := by rw [Tr.w_eq]; split <;> omega
theorem Tr.wL_set : ∀ (ks : List Tr) (i : Nat) (x : Tr), Tr.wL (ks.set i x) ≤ Tr.wL ks + x.w
  | [], _, _ => by simp [Tr.wL]
  | k :: ks, 0, x => by simp only [List.set_cons_zero, Tr.wL]; omega
  | k :: ks, i + 1, x => by have := Tr.wL_set ks i x; simp only [List.set_cons_succ, Tr.wL]; omega
theorem Tr.szL_set : ∀ (ks : List Tr) (i : Nat) (x : Tr), Tr.szL (ks.set i x) ≤ Tr.szL ks + x.sz + 2
  | [], _, _ => by simp [Tr.szL]
  | k :: ks, 0, x => by simp only [List.set_cons_zero, Tr.szL]; omega
  | k :: ks, i + 1, x => by have := Tr.szL_set ks i x; simp only [List.set_cons_succ, Tr.szL]; omega
theorem Tr.q_le (t : Tr) : t.q ≤ t.ps.length + 2 + t.bs.length + Tr.qL t.ks := by rw [Tr.q_eq]; split <;> omega
theorem Tr.qL_set : ∀ (ks : List Tr) (i : Nat) (x : Tr), Tr.qL (ks.set i x) ≤ Tr.qL ks + x.q
  | [], _, _ => by simp [Tr.qL]
  | k :: ks, 0, x => by simp only [List.set_cons_zero, Tr.qL]; omega
  | k :: ks, i + 1, x => by have := Tr.qL_set ks i x; simp only [List.set_cons_succ, Tr.qL]; omega
theorem Tr.qL_mem : ∀ {ks : List Tr} {k : Tr}, k ∈ ks → k.q ≤ Tr.qL ks
  | k' :: ks, k, h => by
    rcases List.mem_cons.1 h with rfl | h
    · simp [Tr.qL]
    · have := Tr.qL_mem h; simp only [Tr.qL]; omega
theorem inject_q {t : Tr} (m : Ms) (h : treeOk t = true) (hq : t.q ≤ 250) : (inject t m).q ≤ t.q + 1 := by
  by_cases hm : m.ok = true ∧ m.op ≠ 4
  · exact (inject_map h hm.1 hm.2 hq).2.2
  · have : inject t m = t := by unfold inject; rw [if_neg (fun q => hm q.2)]
    rw [this]; omega
theorem ok_ps {t : Tr} (h : treeOk t = true) : t.ps.length ≤ 4 := by
  have hR := R_of_ok h
  cases hd : tdepth t with
  | zero => rw [hd] at hR; exact hR.elim
  | succ n =>
    rw [hd] at hR
    rcases hR with ⟨_, _, _, h3, _⟩ | ⟨_, _, h2, _⟩
    · exact h3
    · rw [h2]; simp
def Tr.B (t : Tr) : Prop := t.w ≤ 1000 ∧ t.sz ≤ 3000 ∧ t.q ≤ 200
theorem Tr.B.of {t : Tr} (h1 : 1 + t.ps.length + 2 * t.bs.length + Tr.wL t.ks ≤ 1000) (h2 : t.sz ≤ 3000) (h3 : t.ps.length + 2 + t.bs.length + Tr.qL t.ks ≤ 200) : t.B := ⟨Nat.le_trans t.w_le h1, h2, Nat.le_trans t.q_le h3⟩
theorem s_l2DrawRight_x (c : Cu) (hc : c.ok) (code : List UInt8) (h : code.length ≤ 1048576) : RFx Y 112 [.obx (Cu.c c) 0, .fro true 1 (code.map Bc)] (fun r o => ∃ t c', r = Tr.o t ∧ o = [.obx (Cu.c c') 0] ∧ treeOk t = true ∧ t.w ≤ 181 ∧ t.q ≤ 91 ∧ c'.ok ∧ c'.b = c.b) := by
  refine RFx.s2 rfl rfl rfl ?_
  refine .seq <| .reg <| .new rfl <| .nil <| .seq <| .reg <| .cz rfl rfl rfl (s_TreeNew) .refl rfl rfl rfl (by decide) <| .new rfl <| .stA rfl rfl rfl rfl rfl rfl <| .nil <| .seq <| .reg <| .mv rfl rfl <| .mv rfl rfl <| .c rfl rfl rfl (s_l1Long code 30 90 h (by decide)) .refl rfl rfl rfl (by decide) <| ?_
  obtain ⟨x1, c1, ⟨hx1, hx2, hx3, hc1, hb1⟩, R1⟩ := s_l1Below c hc (min (30 + (code.length / 4 : Nat)) 90) (by omega)
  have hx2 : x1 < 90 := by have := hx2 (by omega); omega
  refine .cPz rfl rfl rfl R1 .refl rfl rfl rfl (by decide) <| .mv rfl rfl <| .nil <| .seq <| .seq <| .reg <| .mv rfl rfl <| .nil <| .block <| ?_
  refine RA.loopI fun T0 hT0 nT0 eT0 => ?_
  have L0 : ∀ (f i : Nat) (d : Cu) (t : Tr) (Q : Qst), (i : Int) + f = x1 → d.ok → d.b = c.b → treeOk t = true → t.w + 2 * f ≤ 181 → t.q + f ≤ 91 →
      (∀ c' t', c'.ok → c'.b = c.b → treeOk t' = true → t'.w ≤ 181 → t'.q ≤ 91 → Q (Tr.o t') [.obx (Cu.c c') 0]) →
      RA Y a112 T0 [(0, .elt 0 0 0), (4, .elt 1 0 0), (5, .elt 2 0 0), (6, i64 x1), (7, i64 i)] [(0, .box (Cu.c d)), (1, .box [.b false, .emp, .emp, .emp, .emp]), (2, .box [.b t.leaf, .row 3, .row 4, .row 5, .row 6]), (3, .row true 2 0 (t.ps.map Pr.c)), (4, .row true 1 0 (t.cs.map Ic)), (5, .row false 5 0 (t.ks.map Tr.e)), (6, .row true 3 0 (t.bs.map Ms.c))] 7 Q := by
    intro f
    induction f using Nat.strongRecOn with
    | _ f IH =>
      intro i d t Q hi hd hdb ht hw hqq hQ
      have hts := ok_sz ht
      rw [eT0]
      refine .seq <| .seq <| .reg <| .mv rfl rfl <| .mv rfl rfl <| .lss rfl rfl rfl (fun h1 => ?_) (fun h1 => ?_)
      · refine .nil <| .condT rfl <| .skip <| .seq <| .block <| .regD <| .aE rfl rfl rfl rfl <| .mv rfl rfl <| ?_
        obtain ⟨m, d1, ⟨hm, hd1, hdb1⟩, R1⟩ := s_l1DrawMsg d hd
        obtain ⟨hj1, hj2⟩ := inject_ok m ht
        have hj3 := inject_q m ht (by omega)
        refine .cPz rfl rfl rfl R1 .refl rfl rfl rfl (by decide) <| .cz rfl rfl rfl (s_Inject t m (by omega) (fun _ => by omega)) (.c (.trF _) (.c .r .n)) rfl rfl rfl (by decide) <| .stA rfl rfl rfl rfl rfl rfl <| .nil (by kernel_rfl) <| .inBlock <| .reg <| .mv rfl rfl <| .add rfl rfl rfl (by omega) <| .mv rfl rfl <| .nil <| hT0 <| ?_
        exact RA.ws [_, _, _, _, _, _, _] (IH (f - 1) (by omega) (i + 1) d1 (inject t m) _ (by omega) hd1 (hdb1.trans hdb) hj1 (by omega) (by omega) hQ) nT0 (by exact .l rfl rfl rfl <| .l rfl rfl rfl <| .l rfl rfl rfl <| .k rfl rfl <| .i rfl (by omega) .nil) (by exact .b rfl rfl (.same rfl) <| .b rfl rfl (.same rfl) <| .b rfl rfl (.box5 (.v .refl rfl) (.row rfl) (.row rfl) (.row rfl) (.row rfl)) <| .r rfl rfl (fun _ => rfl) <| .r rfl rfl (fun _ => rfl) <| .r rfl rfl (fun h => by cases h) <| .r rfl rfl (fun _ => rfl) .nil)
      · refine .nil <| .condF rfl <| .exit rfl <| .seq <| .seq <| .reg <| .mv rfl rfl <| ?_
        obtain ⟨x2, d2, ⟨hd2, hdb2⟩, R2⟩ := s_l1Once d hd 8 (by decide)
        obtain ⟨hj1, hj2⟩ := drain_ok ht
        have hj3 := (drain_map ht (by omega)).2.2.2
        refine .cPz rfl rfl rfl R2 .refl rfl rfl rfl (by decide) <| .bB (fun h2 => ?_) (fun h2 => ?_)
        · refine .nil <| .condT rfl <| .reg <| .aE rfl rfl rfl rfl <| .cz rfl rfl rfl (s_Drain t (by omega) (fun _ => by omega)) (.c (.trF _) .n) rfl rfl rfl (by decide) <| .stA rfl rfl rfl rfl rfl rfl <| .nil <| .seq <| .reg <| .aE rfl rfl rfl rfl <| .stA rfl rfl rfl rfl rfl rfl <| .nil <| .ret rfl (hQ d2 (drain t) hd2 (hdb2.trans hdb) hj1 (by omega) (by omega)) (.agg5 .r (.ox rfl (by first | exact fun _ => rfl | exact fun h => by cases h)) (.ox rfl (by first | exact fun _ => rfl | exact fun h => by cases h)) (.ox rfl (by first | exact fun _ => rfl | exact fun h => by cases h)) (.ox rfl (by first | exact fun _ => rfl | exact fun h => by cases h))) LeBs.refl
        · refine .nil <| .condF rfl <| .skip <| .seq <| .reg <| .aE rfl rfl rfl rfl <| .stA rfl rfl rfl rfl rfl rfl <| .nil <| .ret rfl (hQ d2 t hd2 (hdb2.trans hdb) ht (by omega) (by omega)) (.agg5 .r (.ox rfl (by first | exact fun _ => rfl | exact fun h => by cases h)) (.ox rfl (by first | exact fun _ => rfl | exact fun h => by cases h)) (.ox rfl (by first | exact fun _ => rfl | exact fun h => by cases h)) (.ox rfl (by first | exact fun _ => rfl | exact fun h => by cases h))) LeBs.refl
  exact RA.ws [_, _, _, _, _, _, _] (L0 x1.toNat 0 c1 (.mk true [] [] [] []) _ (by omega) hc1 hb1 (by decide) (by have := hx2; simp only [Tr.w, Tr.wL, List.length_nil, if_true]; omega) (by have := hx2; simp only [Tr.q, Tr.qL, List.length_nil, if_true]; omega) (fun c' t' q1 q2 q3 q4 q5 => ⟨t', c', rfl, rfl, q3, q4, q5, q1, q2⟩)) nT0 (by exact .l rfl rfl rfl <| .l rfl rfl rfl <| .l rfl rfl rfl <| .k rfl rfl <| .k rfl rfl .nil) (by exact .b rfl rfl (.same rfl) <| .b rfl rfl (.same rfl) <| .b rfl rfl (.box5 (.v .refl rfl) (.row rfl) (.row rfl) (.row rfl) (.row rfl)) <| .r rfl rfl (fun _ => rfl) <| .r rfl rfl (fun _ => rfl) <| .r rfl rfl (fun h => by cases h) <| .r rfl rfl (fun _ => rfl) .nil)
theorem s_l2DrawRight (c : Cu) (hc : c.ok) (code : List UInt8) (h : code.length ≤ 1048576) : ∃ t c', (treeOk t = true ∧ t.w ≤ 181 ∧ t.q ≤ 91 ∧ c'.ok ∧ c'.b = c.b) ∧ RF Y 112 [.obx (Cu.c c) 0, .fro true 1 (code.map Bc)] (Tr.o t) [.obx (Cu.c c') 0] := by
  obtain ⟨r, o, ⟨t, c', rfl, rfl, hp⟩, hr⟩ := s_l2DrawRight_x c hc code h
  exact ⟨t, c', hp, hr⟩
theorem mk_ps {l p c k b} : (Tr.mk l p c k b).ps = p := rfl
theorem mk_cs {l p c k b} : (Tr.mk l p c k b).cs = c := rfl
theorem mk_ks {l p c k b} : (Tr.mk l p c k b).ks = k := rfl
theorem mk_bs {l p c k b} : (Tr.mk l p c k b).bs = b := rfl
theorem set_tr {ks : List Tr} {n : Nat} {a t : Tr} {x : AV} (hx : x = .fro false 5 (t.ks.map Tr.c)) : ((ks.map Tr.e).set n (lay (Tr.e a) 0 [.b t.leaf, .fro true 2 (t.ps.map Pr.c), .fro true 1 (t.cs.map Ic), x, .fro true 3 (t.bs.map Ms.c)])) = (ks.set n t).map Tr.e := by
  subst hx; rw [List.map_set]; rfl
theorem s_l2Draw_x (c : Cu) (hc : c.ok) (code : List UInt8) (h : code.length ≤ 1048576) : RFx Y 60 [.obx (Cu.c c) 0, .fro true 1 (code.map Bc)] (fun r o => ∃ t c', r = Tr.o t ∧ o = [.obx (Cu.c c') 0] ∧ t.B ∧ c'.ok ∧ c'.b = c.b) := by
  refine RFx.s2 rfl rfl rfl ?_
  refine .seq <| .reg <| .new rfl <| .nil <| .seq <| .reg <| .mv rfl rfl <| .mv rfl rfl <| ?_
  obtain ⟨t, c1, ⟨ht, hw, hqq, hc1, hb1⟩, R1⟩ := s_l2DrawRight c hc code h
  have hts := ok_sz ht
  have hps := ok_ps ht
  have hq0 := Tr.q_eq t
  have hw0 := Tr.w_eq t
  have hs0 := Tr.sz_eq t
  refine .cPz rfl rfl rfl R1 .refl rfl rfl rfl (by decide) <| .new rfl <| .stA rfl rfl rfl rfl rfl rfl <| .nil <| .seq <| .seq <| .reg <| .mv rfl rfl <| ?_
  obtain ⟨x2, c2, ⟨hx2, hy2, hz2, hc2, hb2⟩, R2⟩ := s_l1Below c1 hc1 25 (by decide)
  refine .cPz rfl rfl rfl R2 .refl rfl rfl rfl (by decide) <| .nil <| .block <| .seq <| .reg <| .eql rfl rfl rfl (fun h1 => ?_) (fun h1 => ?_)
  · refine .mv rfl rfl <| .nil <| .condT rfl <| .reg <| .fa rfl rfl <| .ldE rfl rfl rfl rfl <| .not rfl rfl <| .fa rfl rfl <| .st1 rfl rfl rfl rfl rfl (of_decide_eq_true rfl) <| .nil <| .inBlock <| .seq <| .reg <| .aE rfl rfl rfl rfl <| .stA rfl rfl rfl rfl rfl rfl <| .nil <| .ret rfl ⟨.mk (!t.leaf) (t.ps) (t.cs) (t.ks) (t.bs), c2, rfl, rfl, .of (by simp only [mk_ps, mk_bs, mk_ks, List.length_append, List.length_cons, List.length_nil]; omega) (by rw [Tr.sz_eq]; simp only [mk_ps, mk_cs, mk_bs, mk_ks, List.length_append, List.length_cons, List.length_nil, List.length_set]; omega) (by simp only [mk_ps, mk_bs, mk_ks, List.length_append, List.length_cons, List.length_nil]; omega), hc2, by simp only [*]⟩ (.agg5 .r (.ox rfl (by first | exact fun _ => rfl | exact fun h => by cases h)) (.ox rfl (by first | exact fun _ => rfl | exact fun h => by cases h)) (.ox rfl (by first | exact fun _ => rfl | exact fun h => by cases h)) (.ox rfl (by first | exact fun _ => rfl | exact fun h => by cases h))) LeBs.refl
  · refine .mv rfl rfl <| .nil <| .condF rfl <| .seq <| .reg <| .eql rfl rfl rfl (fun h2 => ?_) (fun h2 => ?_)
    · refine .mv rfl rfl <| .nil <| .condT rfl <| .regD <| .fa rfl rfl <| .ldE rfl rfl rfl rfl <| .mv rfl rfl <| ?_
      obtain ⟨m, c3, ⟨hm, hc3, hb3⟩, R3⟩ := s_l1DrawBad c2 hc2
      refine .cPz rfl rfl rfl R3 .refl rfl rfl rfl (by decide) <| .row1P rfl rfl rfl rfl rfl rfl rfl rfl <| .ap rfl rfl rfl rfl rfl (by simp; omega) (by decide) <| .fa rfl rfl <| .st1 rfl rfl rfl rfl rfl (of_decide_eq_true rfl) <| .nil (by kernel_rfl) <| .inBlock <| .seq <| .reg <| .aE rfl rfl rfl rfl <| .stA rfl rfl rfl rfl rfl rfl <| .nil <| .ret rfl ⟨.mk (t.leaf) (t.ps) (t.cs) (t.ks) (t.bs ++ [m]), c3, rfl, rfl, .of (by simp only [mk_ps, mk_bs, mk_ks, List.length_append, List.length_cons, List.length_nil]; omega) (by rw [Tr.sz_eq]; simp only [mk_ps, mk_cs, mk_bs, mk_ks, List.length_append, List.length_cons, List.length_nil, List.length_set]; omega) (by simp only [mk_ps, mk_bs, mk_ks, List.length_append, List.length_cons, List.length_nil]; omega), hc3, by simp only [*]⟩ (.agg5 .r (.ox rfl (by first | exact fun _ => rfl | exact fun h => by cases h)) (.ox rfl (by first | exact fun _ => rfl | exact fun h => by cases h)) (.ox rfl (by first | exact fun _ => rfl | exact fun h => by cases h)) (.ox (List.map_append.symm) (by first | exact fun _ => rfl | exact fun h => by cases h))) LeBs.refl
    · refine .mv rfl rfl <| .nil <| .condF rfl <| .seq <| .reg <| .eql rfl rfl rfl (fun h3 => ?_) (fun h3 => ?_)
      · refine .mv rfl rfl <| .nil <| .condT rfl <| .regD <| .fa rfl rfl <| .ldE rfl rfl rfl rfl <| .mv rfl rfl <| ?_
        obtain ⟨x3, c3, ⟨hx3, hy3, hz3, hc3, hb3⟩, R3⟩ := s_l1Below c2 hc2 40 (by decide)
        refine .cPz rfl rfl rfl R3 .refl rfl rfl rfl (by decide) <| .build (cs := [_, _]) rfl rfl rfl <| .row1P rfl rfl rfl rfl rfl rfl rfl rfl <| .ap rfl rfl rfl rfl rfl (by simp; omega) (by decide) <| .fa rfl rfl <| .st1 rfl rfl rfl rfl rfl (of_decide_eq_true rfl) <| .nil (by kernel_rfl) <| .inBlock <| .seq <| .reg <| .aE rfl rfl rfl rfl <| .stA rfl rfl rfl rfl rfl rfl <| .nil <| .ret rfl ⟨.mk (t.leaf) (t.ps ++ [⟨x3, 0⟩]) (t.cs) (t.ks) (t.bs), c3, rfl, rfl, .of (by simp only [mk_ps, mk_bs, mk_ks, List.length_append, List.length_cons, List.length_nil]; omega) (by rw [Tr.sz_eq]; simp only [mk_ps, mk_cs, mk_bs, mk_ks, List.length_append, List.length_cons, List.length_nil, List.length_set]; omega) (by simp only [mk_ps, mk_bs, mk_ks, List.length_append, List.length_cons, List.length_nil]; omega), hc3, by simp only [*]⟩ (.agg5 .r (.ox (List.map_append.symm) (by first | exact fun _ => rfl | exact fun h => by cases h)) (.ox rfl (by first | exact fun _ => rfl | exact fun h => by cases h)) (.ox rfl (by first | exact fun _ => rfl | exact fun h => by cases h)) (.ox rfl (by first | exact fun _ => rfl | exact fun h => by cases h))) LeBs.refl
      · refine .mv rfl rfl <| .nil <| .condF rfl <| .seq <| .reg <| .eql rfl rfl rfl (fun h4 => ?_) (fun h4 => ?_)
        · refine .mv rfl rfl <| .nil <| .condT rfl <| .seq <| .reg <| .fa rfl rfl <| .ldE rfl rfl rfl rfl <| .len rfl rfl rfl <| .gtr rfl rfl rfl (fun h5 => ?_) (fun h5 => ?_)
          · obtain ⟨a, ha⟩ : ∃ a, t.cs[0]? = some a := ⟨_, getD_at (by omega)⟩
            refine .nil <| .condT rfl <| .regD <| .fa rfl rfl <| .ldE rfl rfl rfl rfl <| .mv rfl rfl <| ?_
            obtain ⟨x3, c3, ⟨hx3, hy3, hz3, hc3, hb3⟩, R3⟩ := s_l1Below c2 hc2 40 (by decide)
            refine .cPz rfl rfl rfl R3 .refl rfl rfl rfl (by decide) <| .iaR (n := 0) rfl rfl rfl rfl (by rw [List.length_map]; omega) <| .stR rfl rfl rfl rfl rfl rfl rfl (by rw [List.getElem?_map, ha]; rfl) (of_decide_eq_true rfl) rfl <| .nil (by kernel_rfl) <| .inBlock <| .seq <| .reg <| .aE rfl rfl rfl rfl <| .stA rfl rfl rfl rfl rfl rfl <| .nil <| .ret rfl ⟨.mk (t.leaf) (t.ps) (t.cs.set 0 x3) (t.ks) (t.bs), c3, rfl, rfl, .of (by simp only [mk_ps, mk_bs, mk_ks, List.length_append, List.length_cons, List.length_nil]; omega) (by rw [Tr.sz_eq]; simp only [mk_ps, mk_cs, mk_bs, mk_ks, List.length_append, List.length_cons, List.length_nil, List.length_set]; omega) (by simp only [mk_ps, mk_bs, mk_ks, List.length_append, List.length_cons, List.length_nil]; omega), hc3, by simp only [*]⟩ (.agg5 .r (.ox rfl (by first | exact fun _ => rfl | exact fun h => by cases h)) (.ox (List.map_set.symm) (by first | exact fun _ => rfl | exact fun h => by cases h)) (.ox rfl (by first | exact fun _ => rfl | exact fun h => by cases h)) (.ox rfl (by first | exact fun _ => rfl | exact fun h => by cases h))) LeBs.refl
          · refine .nil <| .condF rfl <| .skip <| .inBlock <| .seq <| .reg <| .aE rfl rfl rfl rfl <| .stA rfl rfl rfl rfl rfl rfl <| .nil <| .ret rfl ⟨.mk (t.leaf) (t.ps) (t.cs) (t.ks) (t.bs), c2, rfl, rfl, .of (by simp only [mk_ps, mk_bs, mk_ks, List.length_append, List.length_cons, List.length_nil]; omega) (by rw [Tr.sz_eq]; simp only [mk_ps, mk_cs, mk_bs, mk_ks, List.length_append, List.length_cons, List.length_nil, List.length_set]; omega) (by simp only [mk_ps, mk_bs, mk_ks, List.length_append, List.length_cons, List.length_nil]; omega), hc2, by simp only [*]⟩ (.agg5 .r (.ox rfl (by first | exact fun _ => rfl | exact fun h => by cases h)) (.ox rfl (by first | exact fun _ => rfl | exact fun h => by cases h)) (.ox rfl (by first | exact fun _ => rfl | exact fun h => by cases h)) (.ox rfl (by first | exact fun _ => rfl | exact fun h => by cases h))) LeBs.refl
        · refine .mv rfl rfl <| .nil <| .condF rfl <| .seq <| .reg <| .eql rfl rfl rfl (fun h6 => ?_) (fun h6 => ?_)
          · refine .mv rfl rfl <| .nil <| .condT rfl <| .seq <| .reg <| .fa rfl rfl <| .ldE rfl rfl rfl rfl <| .len rfl rfl rfl <| .gtr rfl rfl rfl (fun h7 => ?_) (fun h7 => ?_)
            · obtain ⟨a, ha⟩ : ∃ a, t.ks[0]? = some a := ⟨_, getD_at (by omega)⟩
              have hq1 := Tr.wL_set t.ks 0 (.mk true [] [] [] [])
              have hq2 := Tr.szL_set t.ks 0 (.mk true [] [] [] [])
              have hq3 := Tr.qL_set t.ks 0 (.mk true [] [] [] [])
              simp only [Tr.w, Tr.sz, Tr.wL, Tr.szL, Tr.q, Tr.qL, List.length_nil, if_true] at hq1 hq2 hq3
              refine .nil <| .condT rfl <| .regD <| .fa rfl rfl <| .ldE rfl rfl rfl rfl <| .cz rfl rfl rfl (s_TreeNew) .refl rfl rfl rfl (by decide) <| .iaR (n := 0) rfl rfl rfl rfl (by rw [List.length_map]; omega) <| .stRz (fs := [_, _, _, _, _]) (u := [_, _, _, _]) rfl rfl rfl rfl rfl rfl rfl rfl (by rw [List.getElem?_map, ha]; rfl) (of_decide_eq_true rfl) rfl <| .nil (by kernel_rfl) <| .inBlock <| .seq <| .reg <| .aE rfl rfl rfl rfl <| .stA rfl rfl rfl rfl rfl rfl <| .nil <| .ret rfl ⟨.mk (t.leaf) (t.ps) (t.cs) (t.ks.set 0 (.mk true [] [] [] [])) (t.bs), c2, rfl, rfl, .of (by simp only [mk_ps, mk_bs, mk_ks, List.length_append, List.length_cons, List.length_nil]; omega) (by rw [Tr.sz_eq]; simp only [mk_ps, mk_cs, mk_bs, mk_ks, List.length_append, List.length_cons, List.length_nil, List.length_set]; omega) (by simp only [mk_ps, mk_bs, mk_ks, List.length_append, List.length_cons, List.length_nil]; omega), hc2, by simp only [*]⟩ (.agg5 .r (.ox rfl (by first | exact fun _ => rfl | exact fun h => by cases h)) (.ox rfl (by first | exact fun _ => rfl | exact fun h => by cases h)) (.ox (set_tr (t := .mk true [] [] [] []) rfl) (by first | exact fun _ => rfl | exact fun h => by cases h)) (.ox rfl (by first | exact fun _ => rfl | exact fun h => by cases h))) LeBs.refl
            · refine .nil <| .condF rfl <| .skip <| .inBlock <| .seq <| .reg <| .aE rfl rfl rfl rfl <| .stA rfl rfl rfl rfl rfl rfl <| .nil <| .ret rfl ⟨.mk (t.leaf) (t.ps) (t.cs) (t.ks) (t.bs), c2, rfl, rfl, .of (by simp only [mk_ps, mk_bs, mk_ks, List.length_append, List.length_cons, List.length_nil]; omega) (by rw [Tr.sz_eq]; simp only [mk_ps, mk_cs, mk_bs, mk_ks, List.length_append, List.length_cons, List.length_nil, List.length_set]; omega) (by simp only [mk_ps, mk_bs, mk_ks, List.length_append, List.length_cons, List.length_nil]; omega), hc2, by simp only [*]⟩ (.agg5 .r (.ox rfl (by first | exact fun _ => rfl | exact fun h => by cases h)) (.ox rfl (by first | exact fun _ => rfl | exact fun h => by cases h)) (.ox rfl (by first | exact fun _ => rfl | exact fun h => by cases h)) (.ox rfl (by first | exact fun _ => rfl | exact fun h => by cases h))) LeBs.refl
          · refine .mv rfl rfl <| .nil <| .condF rfl <| .seq <| .reg <| .eql rfl rfl rfl (fun h8 => ?_) (fun h8 => ?_)
            · refine .mv rfl rfl <| .nil <| .condT rfl <| .seq <| .reg <| .fa rfl rfl <| .ldE rfl rfl rfl rfl <| .len rfl rfl rfl <| .gtr rfl rfl rfl (fun h9 => ?_) (fun h9 => ?_)
              · obtain ⟨a, ha⟩ : ∃ a, t.ks[0]? = some a := ⟨_, getD_at (by omega)⟩
                obtain ⟨b, hb⟩ : ∃ b, t.ks[1]? = some b := ⟨_, getD_at (by omega)⟩
                have hbs : b.sz ≤ 1000000 := by have := Tr.kid_sz (List.mem_of_getElem? hb); omega
                have hbw := Tr.wL_mem (List.mem_of_getElem? hb)
                have hbz := Tr.kid_sz (List.mem_of_getElem? hb)
                have hq1 := Tr.wL_set t.ks 0 b
                have hq2 := Tr.szL_set t.ks 0 b
                have hq3 := Tr.qL_set t.ks 0 b
                have hq4 := Tr.qL_mem (List.mem_of_getElem? hb)
                refine .nil <| .condT rfl <| .seq <| .reg <| .fa rfl rfl <| .ldE rfl rfl rfl rfl <| .iaR (n := 1) rfl rfl rfl rfl (by rw [List.length_map]; omega) <| .aR rfl rfl rfl (by rw [List.getElem?_map, hb]; rfl) rfl <| .cz rfl rfl rfl (s_l2Copy b hbs) .refl rfl rfl rfl (by decide) <| .new rfl <| .stA rfl rfl rfl rfl rfl rfl <| .nil <| .reg <| .fa rfl rfl <| .ldE rfl rfl rfl rfl <| .aE rfl rfl rfl rfl <| .iaR (n := 0) rfl rfl rfl rfl (by rw [List.length_map]; omega) <| .stRz (fs := [_, _, _, _, _]) (u := [_, _, _, _]) rfl rfl rfl rfl rfl rfl rfl rfl (by rw [List.getElem?_map, ha]; rfl) (of_decide_eq_true rfl) rfl <| .nil <| .inBlock <| .seq <| .reg <| .aE rfl rfl rfl rfl <| .stA rfl rfl rfl rfl rfl rfl <| .nil <| .ret rfl ⟨.mk (t.leaf) (t.ps) (t.cs) (t.ks.set 0 b) (t.bs), c2, rfl, rfl, .of (by simp only [mk_ps, mk_bs, mk_ks, List.length_append, List.length_cons, List.length_nil]; omega) (by rw [Tr.sz_eq]; simp only [mk_ps, mk_cs, mk_bs, mk_ks, List.length_append, List.length_cons, List.length_nil, List.length_set]; omega) (by simp only [mk_ps, mk_bs, mk_ks, List.length_append, List.length_cons, List.length_nil]; omega), hc2, by simp only [*]⟩ (.agg5 .r (.ox rfl (by first | exact fun _ => rfl | exact fun h => by cases h)) (.ox rfl (by first | exact fun _ => rfl | exact fun h => by cases h)) (.ox (set_tr (t := b) (by rw [Tr.c_e])) (by first | exact fun _ => rfl | exact fun h => by cases h)) (.ox rfl (by first | exact fun _ => rfl | exact fun h => by cases h))) LeBs.refl
              · refine .nil <| .condF rfl <| .skip <| .inBlock <| .seq <| .reg <| .aE rfl rfl rfl rfl <| .stA rfl rfl rfl rfl rfl rfl <| .nil <| .ret rfl ⟨.mk (t.leaf) (t.ps) (t.cs) (t.ks) (t.bs), c2, rfl, rfl, .of (by simp only [mk_ps, mk_bs, mk_ks, List.length_append, List.length_cons, List.length_nil]; omega) (by rw [Tr.sz_eq]; simp only [mk_ps, mk_cs, mk_bs, mk_ks, List.length_append, List.length_cons, List.length_nil, List.length_set]; omega) (by simp only [mk_ps, mk_bs, mk_ks, List.length_append, List.length_cons, List.length_nil]; omega), hc2, by simp only [*]⟩ (.agg5 .r (.ox rfl (by first | exact fun _ => rfl | exact fun h => by cases h)) (.ox rfl (by first | exact fun _ => rfl | exact fun h => by cases h)) (.ox rfl (by first | exact fun _ => rfl | exact fun h => by cases h)) (.ox rfl (by first | exact fun _ => rfl | exact fun h => by cases h))) LeBs.refl
            · refine .mv rfl rfl <| .nil <| .condF rfl <| .skip <| .inBlock <| .seq <| .reg <| .aE rfl rfl rfl rfl <| .stA rfl rfl rfl rfl rfl rfl <| .nil <| .ret rfl ⟨.mk (t.leaf) (t.ps) (t.cs) (t.ks) (t.bs), c2, rfl, rfl, .of (by simp only [mk_ps, mk_bs, mk_ks, List.length_append, List.length_cons, List.length_nil]; omega) (by rw [Tr.sz_eq]; simp only [mk_ps, mk_cs, mk_bs, mk_ks, List.length_append, List.length_cons, List.length_nil, List.length_set]; omega) (by simp only [mk_ps, mk_bs, mk_ks, List.length_append, List.length_cons, List.length_nil]; omega), hc2, by simp only [*]⟩ (.agg5 .r (.ox rfl (by first | exact fun _ => rfl | exact fun h => by cases h)) (.ox rfl (by first | exact fun _ => rfl | exact fun h => by cases h)) (.ox rfl (by first | exact fun _ => rfl | exact fun h => by cases h)) (.ox rfl (by first | exact fun _ => rfl | exact fun h => by cases h))) LeBs.refl
theorem s_l2Draw (c : Cu) (hc : c.ok) (code : List UInt8) (h : code.length ≤ 1048576) : ∃ t c', (t.B ∧ c'.ok ∧ c'.b = c.b) ∧ RF Y 60 [.obx (Cu.c c) 0, .fro true 1 (code.map Bc)] (Tr.o t) [.obx (Cu.c c') 0] := by
  obtain ⟨r, o, ⟨t, c', rfl, rfl, hp⟩, hr⟩ := s_l2Draw_x c hc code h
  exact ⟨t, c', hp, hr⟩
end Go.Proofs.Ytjjocahgbmibeaa

namespace Go.Proofs.Ytjjocahgbmibeaa
open Go.Eng
set_option maxRecDepth 4000
set_option linter.unusedSimpArgs false
set_option linter.unusedVariables false
theorem l_big (code : List UInt8) : RF Y 10 [.fro true 1 (code.map Bc)] (.b (decide ((code.length : Int) > 1048576))) [] := by
  refine RF.s1 rfl rfl rfl fun Q hQ => ?_
  refine .seq <| .reg <| .mv rfl rfl <| .nil <| .seq <| .reg <| .mv rfl rfl <| .len rfl rfl rfl <| .gtr rfl rfl rfl (fun h1 => ?_) (fun h1 => ?_)
  · refine .mv rfl rfl <| .nil <| .ret rfl hQ (.be (by first | (simp at *; done) | (simp at *; omega))) LeBs.refl
  · refine .mv rfl rfl <| .nil <| .ret rfl hQ (.be (by first | (simp at *; done) | (simp at *; omega))) LeBs.refl
end Go.Proofs.Ytjjocahgbmibeaa
