/- Walks: bytes of numbers and of nodes, so far that something bounded comes (the reference). -/
import Derived.Test.YtjjocahgbmibeaaW5
import Derived.Test.YtjjocahgbmibeaaA0
namespace Go.Proofs.Ytjjocahgbmibeaa
open Go.Eng
set_option maxRecDepth 4000
set_option linter.unusedSimpArgs false
set_option linter.unusedVariables false
instance rwl_Bc (u : UInt8) : Rw [[.i .u8 (u.toNat : Int)]] [u] Bc := ⟨rfl⟩
theorem _root_.Go.Eng.RO.cvU {Y : EngSys} {fn : AFn} {ops rest : List AOper} {i : Nat} {k : List AItem} {env : Env'} {mem : Mem'} {next d : Nat} {Q : Qst} {x : AOpd} {ki : IntKind} {n : Int} (h : ops = ⟨some d, .cvI .u8 x, none⟩ :: rest) (hx : x.lk env = some (.i ki n)) (hn : 0 ≤ n ∧ n < 256) (h' : ∀ u : UInt8, RO Y fn rest (i + 1) k ((d, .i .u8 (u.toNat : Int)) :: env) mem next Q) : RO Y fn ops i k env mem next Q :=
  RO.cvI h hx (by
    have e : IntKind.u8.wrap n = ((UInt8.ofNat n.toNat).toNat : Int) := by
      rw [UInt8.toNat_ofNat']
      rw [IntKind.wrap_u8]; omega
    rw [e]; exact h' _)
theorem _root_.Go.Eng.RA.seqJ {Y : EngSys} {fn : AFn} {x y : ACode} {k : List AItem} {env : Env'} {mem : Mem'} {next : Nat} {Q : Qst} (hn : noOps (.code y :: k) = true) (h : ∀ J, noOps J = true → J = (.code y :: k) → RA Y fn (.code x :: J) env mem next Q) : RA Y fn (.code (.seq x y) :: k) env mem next Q := .seq (h _ hn rfl)
theorem s_PutNum_x (x : Int) : RFx Y 166 [i64 x] (fun r o => ∃ (bs : List UInt8), r = .own true 1 0 (bs.map Bc) ∧ o = [] ∧ bs.length ≤ 7) := by
  refine RFx.s1 rfl rfl rfl ?_
  refine .seq <| .reg <| .mv rfl rfl <| .nil <| .seq <| .reg <| .row0 rfl rfl rfl <| .mv rfl rfl <| .nil <| .seq <| .seq <| .reg <| .mv rfl rfl <| .c rfl rfl rfl (s_l1In x (-2000000000) 2000000000) .refl rfl rfl rfl (by decide) <| .bB (fun h1 => ?_) (fun h1 => ?_)
  · have hx := of_decide_eq_true h1
    refine .notT rfl rfl <| .nil <| .condF rfl <| .skip <| .seq <| .reg <| .mv rfl rfl <| .mul rfl rfl rfl (by omega) <| .mv rfl rfl <| .nil <| .seq <| .seq <| .reg <| .mv rfl rfl <| .lss rfl rfl rfl (fun h2 => ?_) (fun h2 => ?_)
    · refine .nil <| .condT rfl <| .reg <| .mv rfl rfl <| .mul rfl rfl rfl (by omega) <| .sub rfl rfl rfl (by omega) <| .mv rfl rfl <| .nil <| .seq <| .block <| ?_
      refine RA.loopI fun T0 hT0 nT0 eT0 => ?_
      have L0 : ∀ (f : Nat) (n : Int) (out : List UInt8) (Q : Qst), 0 ≤ n → (f = 0 → n < 1) → (f = 1 → n < 128) → (f = 2 → n < 16384) → (f = 3 → n < 2097152) → (f = 4 → n < 268435456) → n < 34359738368 → f ≤ 5 → out.length + f ≤ 6 → (∀ bs : List UInt8, bs.length ≤ 7 → Q (.own true 1 0 (bs.map Bc)) []) →
          RA Y a166 T0 [(3, .row 0), (4, i64 n)] [(0, .row true 1 0 (out.map Bc))] 1 Q := by
        intro f
        induction f using Nat.strongRecOn with
        | _ f IH =>
          intro n out Q hn f0 f1 f2 f3 f4 f5 hf ho hQ
          rw [eT0]
          refine .seq <| .seq <| .reg <| .mv rfl rfl <| .gtr rfl rfl rfl (fun h3 => ?_) (fun h3 => ?_)
          · have hdv : n.tdiv 128 = n / 128 := Int.tdiv_eq_ediv_of_nonneg hn
            have hrm : n.tmod 128 = n % 128 := Int.tmod_eq_emod_of_nonneg hn
            refine .nil <| .condT rfl <| .skip <| .block <| .seq <| .reg <| .mv rfl rfl <| .mv rfl rfl <| .rem rfl rfl rfl (by first | decide | omega) <| .add rfl rfl rfl (by omega) <| .cvU rfl rfl (by omega) <| fun u1 => .row1P rfl rfl rfl rfl rfl rfl rfl rfl <| .ap rfl rfl rfl rfl rfl (by simp; omega) (by decide) <| .mv rfl rfl <| .nil <| .reg <| .mv rfl rfl <| .quo rfl rfl rfl (by first | decide | omega) (by omega) <| .mv rfl rfl <| .nil <| .inBlock <| hT0 <| ?_
            exact RA.wq [_] (IH (f - 1) (by omega) (n.tdiv 128) (out ++ [u1]) _ (by omega) (by omega) (by omega) (by omega) (by omega) (by omega) (by omega) (by omega) (by simp; omega) hQ) nT0
          · refine .nil <| .condF rfl <| .exit rfl <| .seq <| .reg <| .mv rfl rfl <| .mv rfl rfl <| .cvU rfl rfl (by omega) <| fun u1 => .row1P rfl rfl rfl rfl rfl rfl rfl rfl <| .ap rfl rfl rfl rfl rfl (by simp; omega) (by decide) <| .mv rfl rfl <| .nil <| .ret rfl (hQ (out ++ [u1]) (by simp; omega)) (by first | exact .rw (fun _ => rfl) | exact .ox rfl (fun _ => rfl)) LeBs.refl
      exact RA.wr [_] (L0 5 (-2 * x - 1) [] _ (by omega) (by omega) (by omega) (by omega) (by omega) (by omega) (by omega) (by omega) (by simp) (fun bs hb => ⟨bs, rfl, rfl, hb⟩)) nT0 (hm := by exact .x rfl rfl rfl (fun _ => rfl) .nil)
    · refine .nil <| .condF rfl <| .skip <| .seq <| .block <| ?_
      refine RA.loopI fun T1 hT1 nT1 eT1 => ?_
      have L1 : ∀ (f : Nat) (n : Int) (out : List UInt8) (Q : Qst), 0 ≤ n → (f = 0 → n < 1) → (f = 1 → n < 128) → (f = 2 → n < 16384) → (f = 3 → n < 2097152) → (f = 4 → n < 268435456) → n < 34359738368 → f ≤ 5 → out.length + f ≤ 6 → (∀ bs : List UInt8, bs.length ≤ 7 → Q (.own true 1 0 (bs.map Bc)) []) →
          RA Y a166 T1 [(3, .row 0), (4, i64 n)] [(0, .row true 1 0 (out.map Bc))] 1 Q := by
        intro f
        induction f using Nat.strongRecOn with
        | _ f IH =>
          intro n out Q hn f0 f1 f2 f3 f4 f5 hf ho hQ
          rw [eT1]
          refine .seq <| .seq <| .reg <| .mv rfl rfl <| .gtr rfl rfl rfl (fun h4 => ?_) (fun h4 => ?_)
          · have hdv : n.tdiv 128 = n / 128 := Int.tdiv_eq_ediv_of_nonneg hn
            have hrm : n.tmod 128 = n % 128 := Int.tmod_eq_emod_of_nonneg hn
            refine .nil <| .condT rfl <| .skip <| .block <| .seq <| .reg <| .mv rfl rfl <| .mv rfl rfl <| .rem rfl rfl rfl (by first | decide | omega) <| .add rfl rfl rfl (by omega) <| .cvU rfl rfl (by omega) <| fun u1 => .row1P rfl rfl rfl rfl rfl rfl rfl rfl <| .ap rfl rfl rfl rfl rfl (by simp; omega) (by decide) <| .mv rfl rfl <| .nil <| .reg <| .mv rfl rfl <| .quo rfl rfl rfl (by first | decide | omega) (by omega) <| .mv rfl rfl <| .nil <| .inBlock <| hT1 <| ?_
            exact RA.wq [_] (IH (f - 1) (by omega) (n.tdiv 128) (out ++ [u1]) _ (by omega) (by omega) (by omega) (by omega) (by omega) (by omega) (by omega) (by omega) (by simp; omega) hQ) nT1
          · refine .nil <| .condF rfl <| .exit rfl <| .seq <| .reg <| .mv rfl rfl <| .mv rfl rfl <| .cvU rfl rfl (by omega) <| fun u1 => .row1P rfl rfl rfl rfl rfl rfl rfl rfl <| .ap rfl rfl rfl rfl rfl (by simp; omega) (by decide) <| .mv rfl rfl <| .nil <| .ret rfl (hQ (out ++ [u1]) (by simp; omega)) (by first | exact .rw (fun _ => rfl) | exact .ox rfl (fun _ => rfl)) LeBs.refl
      exact RA.wr [_] (L1 5 (2 * x) [] _ (by omega) (by omega) (by omega) (by omega) (by omega) (by omega) (by omega) (by omega) (by simp) (fun bs hb => ⟨bs, rfl, rfl, hb⟩)) nT1 (hm := by exact .x rfl rfl rfl (fun _ => rfl) .nil)
  · refine .notF rfl rfl <| .nil <| .condT rfl <| .seq <| .reg <| .mv rfl rfl <| .mv rfl rfl <| .nil <| .ret rfl ⟨[], rfl, rfl, by decide⟩ (by first | exact .rw (fun _ => rfl) | exact .ox rfl (fun _ => rfl)) LeBs.refl
theorem s_PutNum (x : Int) : ∃ (bs : List UInt8), (bs.length ≤ 7) ∧ RF Y 166 [i64 x] (.own true 1 0 (bs.map Bc)) [] := by
  obtain ⟨r, o, ⟨bs, rfl, rfl, hp⟩, hr⟩ := s_PutNum_x x
  exact ⟨bs, hp, hr⟩
theorem s_l5Nums_x (l : List Int) (h : l.length ≤ 100000) : RFx Y 135 [.fro true 1 (l.map Ic)] (fun r o => ∃ (bs : List UInt8) (ok : Bool), r = .tup [.own true 1 0 (bs.map Bc), .b ok] ∧ o = [] ∧ bs.length ≤ 700000) := by
  refine RFx.s1 rfl rfl rfl ?_
  refine .seq <| .reg <| .mv rfl rfl <| .mv rfl rfl <| .nil <| .seq <| .reg <| .row0 rfl rfl rfl <| .mv rfl rfl <| .nil <| .seq <| .seq <| .reg <| .mv rfl rfl <| .nil <| .block <| ?_
  refine RA.loopI fun T0 hT0 nT0 eT0 => ?_
  have L0 : ∀ (post pre : List Int) (out : List UInt8) (Q : Qst), l = pre ++ post → out.length ≤ 7 * pre.length → (∀ (bs : List UInt8) (ok : Bool), bs.length ≤ 700000 → Q (.tup [.own true 1 0 (bs.map Bc), .b ok]) []) → RA Y a135 T0 [(0, .fro true 1 (l.map Ic)), (4, .row 0), (5, i64 pre.length)] [(0, .row true 1 0 (out.map Bc))] 1 Q := by
    intro post
    induction post with
    | nil =>
      intro pre out Q hc ho hQ
      have hl : l.length = pre.length := by simp [hc]
      rw [eT0]
      refine .seq <| .seq <| .reg <| .mv rfl rfl <| .mv rfl rfl <| .len rfl rfl rfl <| .lssF rfl rfl rfl (by omega) <| .nil <| .condF rfl <| .exit rfl <| .seq <| .reg <| .mv rfl rfl <| .mv rfl rfl <| .mv rfl rfl <| .nil <| .ret rfl (hQ out true (by omega)) (.tup2 (by first | exact .rw (fun _ => rfl) | exact .ox rfl (fun _ => rfl)) .r) LeBs.refl
    | cons a post ih =>
      intro pre out Q hc ho hQ
      have hl : l.length = pre.length + post.length + 1 := by simp [hc]; omega
      have ha : l[pre.length]? = some a := by simp [hc]
      rw [eT0]
      refine .seq <| .seq <| .reg <| .mv rfl rfl <| .mv rfl rfl <| .len rfl rfl rfl <| .lssT rfl rfl rfl (by omega) <| .nil <| .condT rfl <| .skip <| .seq <| .block <| .seq <| .reg <| .mv rfl rfl <| .mv rfl rfl <| .ia rfl rfl rfl (by assumption) <| .ldF rfl rfl rfl <| ?_
      obtain ⟨b1, hb1, R1⟩ := s_PutNum a
      refine .c rfl rfl rfl R1 .refl rfl rfl rfl (by decide) <| .mv rfl rfl <| .nil <| .seq <| .seq <| .reg <| .mv rfl rfl <| .len rfl rfl rfl <| .eql rfl rfl rfl (fun h2 => ?_) (fun h2 => ?_)
      · refine .nil <| .condT rfl <| .seq <| .reg <| .row0 rfl rfl rfl <| .mv rfl rfl <| .mv rfl rfl <| .nil <| .ret rfl (hQ [] false (by decide)) (.tup2 (by first | exact .rw (fun _ => rfl) | exact .ox rfl (fun _ => rfl)) .r) LeBs.refl
      · refine .nil <| .condF rfl <| .skip <| .reg <| .mv rfl rfl <| .mv rfl rfl <| .ap rfl rfl rfl rfl rfl (by simp; omega) (by decide) <| .mv rfl rfl <| .nil <| .inBlock <| .reg <| .mv rfl rfl <| .add rfl rfl rfl (by omega) <| .mv rfl rfl <| .nil <| hT0 <| ?_
        exact RA.wq [_] (ih (pre ++ [a]) (out ++ b1) _ (by simp [hc]) (by simp; omega) hQ) nT0
  exact RA.wq [_] (L0 l [] [] _ rfl (by simp) (fun bs ok hb => ⟨bs, ok, rfl, rfl, hb⟩)) nT0
theorem s_l5Nums (l : List Int) (h : l.length ≤ 100000) : ∃ (bs : List UInt8) (ok : Bool), (bs.length ≤ 700000) ∧ RF Y 135 [.fro true 1 (l.map Ic)] (.tup [.own true 1 0 (bs.map Bc), .b ok]) [] := by
  obtain ⟨r, o, ⟨bs, ok, rfl, rfl, hp⟩, hr⟩ := s_l5Nums_x l h
  exact ⟨bs, ok, hp, hr⟩
theorem s_l5Node_x (t : Tr) (ks : List Int) (h : t.sz ≤ 10000) (hk : ks.length ≤ 10000) : RFx Y 136 [.agg t.e, .fro true 1 (ks.map Ic)] (fun r o => ∃ (l : List Int), r = .own true 1 0 (l.map Ic) ∧ o = [] ∧ l.length ≤ 100000) := by
  refine RFx.s2 rfl rfl rfl ?_
  obtain ⟨hz1, hz2, hz3, hz4⟩ := Tr.lens h
  refine .seq <| .reg <| .box rfl rfl rfl <| .mv rfl rfl <| .nil <| .seq <| .reg <| .mv rfl rfl <| .len rfl rfl rfl <| .rows (xs := [[_], [_]]) (u := []) rfl rfl rfl rfl rfl rfl <| .mv rfl rfl <| .nil <| .seq <| .seq <| .reg <| .fa rfl rfl <| .ldE rfl rfl rfl rfl <| .bB (fun h1 => ?_) (fun h1 => ?_)
  · refine .nil <| .condT rfl <| .seq <| .reg <| .fa rfl rfl <| .ldE rfl rfl rfl rfl <| .len rfl rfl rfl <| .rows (xs := [[_], [_]]) (u := []) rfl rfl rfl rfl rfl rfl <| .mv rfl rfl <| .nil <| .seq <| .seq <| .reg <| .mv rfl rfl <| .nil <| .block <| ?_
    refine RA.loopI fun T0 hT0 nT0 eT0 => ?_
    have L0 : ∀ (post pre : List Pr) (out : List Int) (Q : Qst), t.ps = pre ++ post → out.length ≤ 40000 + 3 * pre.length → (∀ l : List Int, l.length ≤ 100000 → Q (.own true 1 0 (l.map Ic)) []) → RA Y a136 T0 [(2, .elt 0 0 0), (5, .row 1), (6, i64 pre.length)] [(0, .box t.e), (1, .row true 1 0 (out.map Ic))] 2 Q := by
      intro post
      induction post with
      | nil =>
        intro pre out Q hc ho hQ
        have hl : t.ps.length = pre.length := by simp [hc]
        rw [eT0]
        refine .seq <| .seq <| .reg <| .mv rfl rfl <| .fa rfl rfl <| .ldE rfl rfl rfl rfl <| .len rfl rfl rfl <| .lssF rfl rfl rfl (by omega) <| .nil <| .condF rfl <| .exit rfl <| .seq <| .reg <| .mv rfl rfl <| .mv rfl rfl <| .nil <| .ret rfl (hQ out (by omega)) (by first | exact .rw (fun _ => rfl) | exact .ox rfl (fun _ => rfl)) LeBs.refl
      | cons a post ih =>
        intro pre out Q hc ho hQ
        have hl : t.ps.length = pre.length + post.length + 1 := by simp [hc]; omega
        have ha : t.ps[pre.length]? = some a := by simp [hc]
        rw [eT0]
        refine .seq <| .seq <| .reg <| .mv rfl rfl <| .fa rfl rfl <| .ldE rfl rfl rfl rfl <| .len rfl rfl rfl <| .lssT rfl rfl rfl (by omega) <| .nil <| .condT rfl <| .skip <| .seq <| .block <| .regD <| .mv rfl rfl <| .fa rfl rfl <| .ldE rfl rfl rfl rfl <| .mv rfl rfl <| .ia rfl rfl rfl (by assumption) <| .faF rfl rfl <| .ldF rfl rfl rfl <| .fa rfl rfl <| .ldE rfl rfl rfl rfl <| .mv rfl rfl <| .ia rfl rfl rfl (by assumption) <| .faF rfl rfl <| .ldF rfl rfl rfl <| .rows (xs := [[_], [_]]) (u := []) rfl rfl rfl rfl rfl rfl <| .ap rfl rfl rfl rfl rfl (by simp; omega) (by decide) <| .mv rfl rfl <| .nil (by kernel_rfl) <| .inBlock <| .reg <| .mv rfl rfl <| .add rfl rfl rfl (by omega) <| .mv rfl rfl <| .nil <| hT0 <| ?_
        exact RA.wq [_, _] (ih (pre ++ [a]) (out ++ [a.k, a.v]) _ (by simp [hc]) (by simp; omega) hQ) nT0
    exact RA.wr [_, _] (L0 t.ps [] [1, (t.ps.length : Int)] _ rfl (by first | (simp; done) | (simp; omega)) (fun l hl => ⟨l, rfl, rfl, hl⟩)) nT0 (hm := by exact .b rfl rfl (.same rfl) <| .x rfl rfl (by simp [Ic]) (fun _ => rfl) .nil)
  · refine .nil <| .condF rfl <| .skip <| .seq <| .reg <| .mv rfl rfl <| .mv rfl rfl <| .ap rfl rfl rfl rfl rfl (by simp; omega) (by decide) <| .mv rfl rfl <| .nil <| .seq <| .reg <| .mv rfl rfl <| .fa rfl rfl <| .ldE rfl rfl rfl rfl <| .ap rfl rfl rfl rfl rfl (by simp; omega) (by decide) <| .mv rfl rfl <| .nil <| .seq <| .reg <| .mv rfl rfl <| .fa rfl rfl <| .ldE rfl rfl rfl rfl <| .len rfl rfl rfl <| .row1P rfl rfl rfl rfl rfl rfl rfl rfl <| .ap rfl rfl rfl rfl rfl (by simp; omega) (by decide) <| .mv rfl rfl <| .nil <| .seq <| .seq <| .reg <| .mv rfl rfl <| .nil <| .block <| ?_
    refine RA.loopI fun T1 hT1 nT1 eT1 => ?_
    have L1 : ∀ (post pre : List Ms) (out : List Int) (Q : Qst), t.bs = pre ++ post → out.length ≤ 40000 + 3 * pre.length → (∀ l : List Int, l.length ≤ 100000 → Q (.own true 1 0 (l.map Ic)) []) → RA Y a136 T1 [(2, .elt 0 0 0), (5, .row 1), (7, i64 pre.length)] [(0, .box t.e), (1, .row true 1 0 (out.map Ic))] 2 Q := by
      intro post
      induction post with
      | nil =>
        intro pre out Q hc ho hQ
        have hl : t.bs.length = pre.length := by simp [hc]
        rw [eT1]
        refine .seq <| .seq <| .reg <| .mv rfl rfl <| .fa rfl rfl <| .ldE rfl rfl rfl rfl <| .len rfl rfl rfl <| .lssF rfl rfl rfl (by omega) <| .nil <| .condF rfl <| .exit rfl <| .seq <| .reg <| .mv rfl rfl <| .mv rfl rfl <| .nil <| .ret rfl (hQ out (by omega)) (by first | exact .rw (fun _ => rfl) | exact .ox rfl (fun _ => rfl)) LeBs.refl
      | cons a post ih =>
        intro pre out Q hc ho hQ
        have hl : t.bs.length = pre.length + post.length + 1 := by simp [hc]; omega
        have ha : t.bs[pre.length]? = some a := by simp [hc]
        rw [eT1]
        refine .seq <| .seq <| .reg <| .mv rfl rfl <| .fa rfl rfl <| .ldE rfl rfl rfl rfl <| .len rfl rfl rfl <| .lssT rfl rfl rfl (by omega) <| .nil <| .condT rfl <| .skip <| .seq <| .block <| .regD <| .mv rfl rfl <| .fa rfl rfl <| .ldE rfl rfl rfl rfl <| .mv rfl rfl <| .ia rfl rfl rfl (by assumption) <| .faF rfl rfl <| .ldF rfl rfl rfl <| .fa rfl rfl <| .ldE rfl rfl rfl rfl <| .mv rfl rfl <| .ia rfl rfl rfl (by assumption) <| .faF rfl rfl <| .ldF rfl rfl rfl <| .fa rfl rfl <| .ldE rfl rfl rfl rfl <| .mv rfl rfl <| .ia rfl rfl rfl (by assumption) <| .faF rfl rfl <| .ldF rfl rfl rfl <| .rows (xs := [[_], [_], [_]]) (u := []) rfl rfl rfl rfl rfl rfl <| .ap rfl rfl rfl rfl rfl (by simp; omega) (by decide) <| .mv rfl rfl <| .nil (by kernel_rfl) <| .inBlock <| .reg <| .mv rfl rfl <| .add rfl rfl rfl (by omega) <| .mv rfl rfl <| .nil <| hT1 <| ?_
        exact RA.wq [_, _] (ih (pre ++ [a]) (out ++ [a.op, a.k, a.v]) _ (by simp [hc]) (by simp; omega) hQ) nT1
    exact RA.wr [_, _] (L1 t.bs [] ([0, (ks.length : Int)] ++ ks ++ t.cs ++ [(t.bs.length : Int)]) _ rfl (by first | (simp; done) | (simp; omega)) (fun l hl => ⟨l, rfl, rfl, hl⟩)) nT1 (hm := by exact .b rfl rfl (.same rfl) <| .x rfl rfl (by simp [Ic]) (fun _ => rfl) .nil)
theorem s_l5Node (t : Tr) (ks : List Int) (h : t.sz ≤ 10000) (hk : ks.length ≤ 10000) : ∃ (l : List Int), (l.length ≤ 100000) ∧ RF Y 136 [.agg t.e, .fro true 1 (ks.map Ic)] (.own true 1 0 (l.map Ic)) [] := by
  obtain ⟨r, o, ⟨l, rfl, rfl, hp⟩, hr⟩ := s_l5Node_x t ks h hk
  exact ⟨l, hp, hr⟩
theorem s_PutNode_x (t : Tr) (ks : List Int) (h : t.sz ≤ 10000) (hk : ks.length ≤ 10000) : RFx Y 88 [.agg t.e, .fro true 1 (ks.map Ic)] (fun r o => ∃ (bs : List UInt8) (ok : Bool), r = .tup [.own true 1 0 (bs.map Bc), .b ok] ∧ o = [] ∧ bs.length ≤ 700000) := by
  refine RFx.s2 rfl rfl rfl ?_
  obtain ⟨hz1, hz2, hz3, hz4⟩ := Tr.lens h
  refine .seq <| .reg <| .box rfl rfl rfl <| .mv rfl rfl <| .mv rfl rfl <| .nil <| .seq <| .seq <| .reg <| .fa rfl rfl <| .ldE rfl rfl rfl rfl <| .bB (fun h1 => ?_) (fun h1 => ?_)
  · refine .mv rfl rfl <| .g rfl rfl <| .mv rfl rfl <| .g rfl rfl <| .len rfl rfl rfl <| .g rfl rfl <| .gtr rfl rfl rfl (fun h2 => ?_) (fun h2 => ?_)
    · refine .g rfl rfl <| .mv rfl rfl <| .gs rfl rfl rfl <| .gs rfl rfl rfl <| .gs rfl rfl rfl <| .gs rfl rfl rfl <| .gs rfl rfl rfl <| .gs rfl rfl rfl <| .gs rfl rfl rfl <| .gs rfl rfl rfl <| .gs rfl rfl rfl <| .gs rfl rfl rfl <| .gs rfl rfl rfl <| .gs rfl rfl rfl <| .g rfl rfl <| .pickT rfl rfl rfl <| .g rfl rfl <| .mv rfl rfl <| .gs rfl rfl rfl <| .gs rfl rfl rfl <| .gs rfl rfl rfl <| .gs rfl rfl rfl <| .g rfl rfl <| .pickT rfl rfl rfl <| .pickT rfl rfl rfl <| .nil <| .condT rfl <| .seq <| .reg <| .row0 rfl rfl rfl <| .mv rfl rfl <| .mv rfl rfl <| .nil <| .ret rfl (by first | exact ⟨bs, ok, rfl, rfl, hb⟩ | exact ⟨[], false, rfl, rfl, by decide⟩) (.tup2 (by first | exact .rw (fun _ => rfl) | exact .ox rfl (fun _ => rfl)) .r) LeBs.refl
    · refine .g rfl rfl <| .mv rfl rfl <| .g rfl rfl <| .fa rfl rfl <| .g rfl rfl <| .ldE rfl rfl rfl rfl <| .g rfl rfl <| .len rfl rfl rfl <| .g rfl rfl <| .fa rfl rfl <| .g rfl rfl <| .ldE rfl rfl rfl rfl <| .g rfl rfl <| .len rfl rfl rfl <| .g rfl rfl <| .add rfl rfl rfl (by omega) <| .g rfl rfl <| .fa rfl rfl <| .g rfl rfl <| .ldE rfl rfl rfl rfl <| .g rfl rfl <| .len rfl rfl rfl <| .g rfl rfl <| .add rfl rfl rfl (by omega) <| .g rfl rfl <| .gtr rfl rfl rfl (fun h3 => ?_) (fun h3 => ?_)
      · refine .g rfl rfl <| .pickF rfl rfl rfl <| .g rfl rfl <| .mv rfl rfl <| .gs rfl rfl rfl <| .gs rfl rfl rfl <| .gs rfl rfl rfl <| .gs rfl rfl rfl <| .g rfl rfl <| .pickT rfl rfl rfl <| .pickT rfl rfl rfl <| .nil <| .condT rfl <| .seq <| .reg <| .row0 rfl rfl rfl <| .mv rfl rfl <| .mv rfl rfl <| .nil <| .ret rfl (by first | exact ⟨bs, ok, rfl, rfl, hb⟩ | exact ⟨[], false, rfl, rfl, by decide⟩) (.tup2 (by first | exact .rw (fun _ => rfl) | exact .ox rfl (fun _ => rfl)) .r) LeBs.refl
      · refine .g rfl rfl <| .pickF rfl rfl rfl <| .g rfl rfl <| .mv rfl rfl <| .g rfl rfl <| .fa rfl rfl <| .g rfl rfl <| .ldE rfl rfl rfl rfl <| .g rfl rfl <| .len rfl rfl rfl <| .g rfl rfl <| .gtr rfl rfl rfl (fun h4 => ?_) (fun h4 => ?_)
        · refine .g rfl rfl <| .pickF rfl rfl rfl <| .pickT rfl rfl rfl <| .nil <| .condT rfl <| .seq <| .reg <| .row0 rfl rfl rfl <| .mv rfl rfl <| .mv rfl rfl <| .nil <| .ret rfl (by first | exact ⟨bs, ok, rfl, rfl, hb⟩ | exact ⟨[], false, rfl, rfl, by decide⟩) (.tup2 (by first | exact .rw (fun _ => rfl) | exact .ox rfl (fun _ => rfl)) .r) LeBs.refl
        · refine .g rfl rfl <| .pickF rfl rfl rfl <| .pickT rfl rfl rfl <| .nil <| .condF rfl <| .skip <| .seq <| .seq <| .reg <| .fa rfl rfl <| .ldE rfl rfl rfl rfl <| .bB (fun h5 => ?_) (fun h5 => ?_)
          · refine .notT rfl rfl <| .mv rfl rfl <| .gs rfl rfl rfl <| .gs rfl rfl rfl <| .gs rfl rfl rfl <| .gs rfl rfl rfl <| .gs rfl rfl rfl <| .gs rfl rfl rfl <| .gs rfl rfl rfl <| .gu rfl rfl <| .gu rfl rfl <| .gu rfl rfl <| .gs rfl rfl rfl <| .gs rfl rfl rfl <| .gu rfl rfl <| .gu rfl rfl <| .gu rfl rfl <| .gs rfl rfl rfl <| .gs rfl rfl rfl <| .gu rfl rfl <| .gu rfl rfl <| .gu rfl rfl <| .gu rfl rfl <| .gu rfl rfl <| .gu rfl rfl <| .gu rfl rfl <| .gs rfl rfl rfl <| .gs rfl rfl rfl <| .gu rfl rfl <| .gu rfl rfl <| .gu rfl rfl <| .gu rfl rfl <| .gs rfl rfl rfl <| .gs rfl rfl rfl <| .gu rfl rfl <| .gu rfl rfl <| .gu rfl rfl <| .gu rfl rfl <| .gs rfl rfl rfl <| .pickF rfl rfl rfl <| .nil <| .condF rfl <| .skip <| .seq <| .reg <| .aE rfl rfl rfl rfl <| .mv rfl rfl <| ?_
            obtain ⟨l, hl, R1⟩ := s_l5Node t ks h hk
            refine .c rfl rfl rfl R1 .refl rfl rfl rfl (by decide) <| ?_
            obtain ⟨bs, ok, hb, R2⟩ := s_l5Nums l hl
            refine .c rfl rfl rfl R2 (.c (.fz (.rw (fun h => h))) .n) rfl rfl rfl (by decide) <| .ex rfl rfl rfl <| .ex rfl rfl rfl <| .mv rfl rfl <| .mv rfl rfl <| .nil <| .ret rfl (by first | exact ⟨bs, ok, rfl, rfl, hb⟩ | exact ⟨[], false, rfl, rfl, by decide⟩) (.tup2 (by first | exact .rw (fun _ => rfl) | exact .ox rfl (fun _ => rfl)) .r) LeBs.refl
          · refine .notF rfl rfl <| .mv rfl rfl <| .g rfl rfl <| .mv rfl rfl <| .g rfl rfl <| .len rfl rfl rfl <| .g rfl rfl <| .fa rfl rfl <| .g rfl rfl <| .ldE rfl rfl rfl rfl <| .g rfl rfl <| .len rfl rfl rfl <| .g rfl rfl <| .neq rfl rfl rfl (fun h6 => ?_) (fun h6 => ?_)
            · refine .g rfl rfl <| .mv rfl rfl <| .gs rfl rfl rfl <| .gs rfl rfl rfl <| .gs rfl rfl rfl <| .g rfl rfl <| .pickT rfl rfl rfl <| .g rfl rfl <| .mv rfl rfl <| .gs rfl rfl rfl <| .gs rfl rfl rfl <| .gs rfl rfl rfl <| .g rfl rfl <| .pickT rfl rfl rfl <| .g rfl rfl <| .mv rfl rfl <| .gs rfl rfl rfl <| .gs rfl rfl rfl <| .gs rfl rfl rfl <| .gs rfl rfl rfl <| .gs rfl rfl rfl <| .gs rfl rfl rfl <| .gs rfl rfl rfl <| .g rfl rfl <| .pickT rfl rfl rfl <| .g rfl rfl <| .mv rfl rfl <| .gs rfl rfl rfl <| .gs rfl rfl rfl <| .gs rfl rfl rfl <| .gs rfl rfl rfl <| .g rfl rfl <| .pickT rfl rfl rfl <| .g rfl rfl <| .mv rfl rfl <| .gs rfl rfl rfl <| .gs rfl rfl rfl <| .gs rfl rfl rfl <| .gs rfl rfl rfl <| .g rfl rfl <| .pickT rfl rfl rfl <| .pickT rfl rfl rfl <| .nil <| .condT rfl <| .seq <| .reg <| .row0 rfl rfl rfl <| .mv rfl rfl <| .mv rfl rfl <| .nil <| .ret rfl (by first | exact ⟨bs, ok, rfl, rfl, hb⟩ | exact ⟨[], false, rfl, rfl, by decide⟩) (.tup2 (by first | exact .rw (fun _ => rfl) | exact .ox rfl (fun _ => rfl)) .r) LeBs.refl
            · refine .g rfl rfl <| .mv rfl rfl <| .g rfl rfl <| .mv rfl rfl <| .g rfl rfl <| .len rfl rfl rfl <| .g rfl rfl <| .eql rfl rfl rfl (fun h7 => ?_) (fun h7 => ?_)
              · refine .g rfl rfl <| .pickF rfl rfl rfl <| .g rfl rfl <| .mv rfl rfl <| .gs rfl rfl rfl <| .gs rfl rfl rfl <| .gs rfl rfl rfl <| .g rfl rfl <| .pickT rfl rfl rfl <| .g rfl rfl <| .mv rfl rfl <| .gs rfl rfl rfl <| .gs rfl rfl rfl <| .gs rfl rfl rfl <| .gs rfl rfl rfl <| .gs rfl rfl rfl <| .gs rfl rfl rfl <| .gs rfl rfl rfl <| .g rfl rfl <| .pickT rfl rfl rfl <| .g rfl rfl <| .mv rfl rfl <| .gs rfl rfl rfl <| .gs rfl rfl rfl <| .gs rfl rfl rfl <| .gs rfl rfl rfl <| .g rfl rfl <| .pickT rfl rfl rfl <| .g rfl rfl <| .mv rfl rfl <| .gs rfl rfl rfl <| .gs rfl rfl rfl <| .gs rfl rfl rfl <| .gs rfl rfl rfl <| .g rfl rfl <| .pickT rfl rfl rfl <| .pickT rfl rfl rfl <| .nil <| .condT rfl <| .seq <| .reg <| .row0 rfl rfl rfl <| .mv rfl rfl <| .mv rfl rfl <| .nil <| .ret rfl (by first | exact ⟨bs, ok, rfl, rfl, hb⟩ | exact ⟨[], false, rfl, rfl, by decide⟩) (.tup2 (by first | exact .rw (fun _ => rfl) | exact .ox rfl (fun _ => rfl)) .r) LeBs.refl
              · refine .g rfl rfl <| .pickF rfl rfl rfl <| .g rfl rfl <| .mv rfl rfl <| .g rfl rfl <| .mv rfl rfl <| .g rfl rfl <| .len rfl rfl rfl <| .g rfl rfl <| .gtr rfl rfl rfl (fun h8 => ?_) (fun h8 => ?_)
                · refine .g rfl rfl <| .pickF rfl rfl rfl <| .g rfl rfl <| .mv rfl rfl <| .gs rfl rfl rfl <| .gs rfl rfl rfl <| .gs rfl rfl rfl <| .gs rfl rfl rfl <| .gs rfl rfl rfl <| .gs rfl rfl rfl <| .gs rfl rfl rfl <| .g rfl rfl <| .pickT rfl rfl rfl <| .g rfl rfl <| .mv rfl rfl <| .gs rfl rfl rfl <| .gs rfl rfl rfl <| .gs rfl rfl rfl <| .gs rfl rfl rfl <| .g rfl rfl <| .pickT rfl rfl rfl <| .g rfl rfl <| .mv rfl rfl <| .gs rfl rfl rfl <| .gs rfl rfl rfl <| .gs rfl rfl rfl <| .gs rfl rfl rfl <| .g rfl rfl <| .pickT rfl rfl rfl <| .pickT rfl rfl rfl <| .nil <| .condT rfl <| .seq <| .reg <| .row0 rfl rfl rfl <| .mv rfl rfl <| .mv rfl rfl <| .nil <| .ret rfl (by first | exact ⟨bs, ok, rfl, rfl, hb⟩ | exact ⟨[], false, rfl, rfl, by decide⟩) (.tup2 (by first | exact .rw (fun _ => rfl) | exact .ox rfl (fun _ => rfl)) .r) LeBs.refl
                · refine .g rfl rfl <| .pickF rfl rfl rfl <| .g rfl rfl <| .mv rfl rfl <| .g rfl rfl <| .fa rfl rfl <| .g rfl rfl <| .ldE rfl rfl rfl rfl <| .g rfl rfl <| .len rfl rfl rfl <| .g rfl rfl <| .mv rfl rfl <| .g rfl rfl <| .len rfl rfl rfl <| .g rfl rfl <| .sub rfl rfl rfl (by omega) <| .g rfl rfl <| .neq rfl rfl rfl (fun h9 => ?_) (fun h9 => ?_)
                  · refine .g rfl rfl <| .pickF rfl rfl rfl <| .g rfl rfl <| .mv rfl rfl <| .gs rfl rfl rfl <| .gs rfl rfl rfl <| .gs rfl rfl rfl <| .gs rfl rfl rfl <| .g rfl rfl <| .pickT rfl rfl rfl <| .g rfl rfl <| .mv rfl rfl <| .gs rfl rfl rfl <| .gs rfl rfl rfl <| .gs rfl rfl rfl <| .gs rfl rfl rfl <| .g rfl rfl <| .pickT rfl rfl rfl <| .pickT rfl rfl rfl <| .nil <| .condT rfl <| .seq <| .reg <| .row0 rfl rfl rfl <| .mv rfl rfl <| .mv rfl rfl <| .nil <| .ret rfl (by first | exact ⟨bs, ok, rfl, rfl, hb⟩ | exact ⟨[], false, rfl, rfl, by decide⟩) (.tup2 (by first | exact .rw (fun _ => rfl) | exact .ox rfl (fun _ => rfl)) .r) LeBs.refl
                  · refine .g rfl rfl <| .pickF rfl rfl rfl <| .g rfl rfl <| .mv rfl rfl <| .g rfl rfl <| .fa rfl rfl <| .g rfl rfl <| .ldE rfl rfl rfl rfl <| .g rfl rfl <| .len rfl rfl rfl <| .g rfl rfl <| .gtr rfl rfl rfl (fun h10 => ?_) (fun h10 => ?_)
                    · refine .g rfl rfl <| .pickF rfl rfl rfl <| .g rfl rfl <| .mv rfl rfl <| .gs rfl rfl rfl <| .gs rfl rfl rfl <| .gs rfl rfl rfl <| .gs rfl rfl rfl <| .g rfl rfl <| .pickT rfl rfl rfl <| .pickT rfl rfl rfl <| .nil <| .condT rfl <| .seq <| .reg <| .row0 rfl rfl rfl <| .mv rfl rfl <| .mv rfl rfl <| .nil <| .ret rfl (by first | exact ⟨bs, ok, rfl, rfl, hb⟩ | exact ⟨[], false, rfl, rfl, by decide⟩) (.tup2 (by first | exact .rw (fun _ => rfl) | exact .ox rfl (fun _ => rfl)) .r) LeBs.refl
                    · refine .g rfl rfl <| .pickF rfl rfl rfl <| .g rfl rfl <| .mv rfl rfl <| .g rfl rfl <| .fa rfl rfl <| .g rfl rfl <| .ldE rfl rfl rfl rfl <| .g rfl rfl <| .len rfl rfl rfl <| .g rfl rfl <| .gtr rfl rfl rfl (fun h11 => ?_) (fun h11 => ?_)
                      · refine .g rfl rfl <| .pickF rfl rfl rfl <| .pickT rfl rfl rfl <| .nil <| .condT rfl <| .seq <| .reg <| .row0 rfl rfl rfl <| .mv rfl rfl <| .mv rfl rfl <| .nil <| .ret rfl (by first | exact ⟨bs, ok, rfl, rfl, hb⟩ | exact ⟨[], false, rfl, rfl, by decide⟩) (.tup2 (by first | exact .rw (fun _ => rfl) | exact .ox rfl (fun _ => rfl)) .r) LeBs.refl
                      · refine .g rfl rfl <| .pickF rfl rfl rfl <| .pickT rfl rfl rfl <| .nil <| .condF rfl <| .skip <| .seq <| .reg <| .aE rfl rfl rfl rfl <| .mv rfl rfl <| ?_
                        obtain ⟨l, hl, R1⟩ := s_l5Node t ks h hk
                        refine .c rfl rfl rfl R1 .refl rfl rfl rfl (by decide) <| ?_
                        obtain ⟨bs, ok, hb, R2⟩ := s_l5Nums l hl
                        refine .c rfl rfl rfl R2 (.c (.fz (.rw (fun h => h))) .n) rfl rfl rfl (by decide) <| .ex rfl rfl rfl <| .ex rfl rfl rfl <| .mv rfl rfl <| .mv rfl rfl <| .nil <| .ret rfl (by first | exact ⟨bs, ok, rfl, rfl, hb⟩ | exact ⟨[], false, rfl, rfl, by decide⟩) (.tup2 (by first | exact .rw (fun _ => rfl) | exact .ox rfl (fun _ => rfl)) .r) LeBs.refl
  · refine .mv rfl rfl <| .gs rfl rfl rfl <| .gs rfl rfl rfl <| .gs rfl rfl rfl <| .gs rfl rfl rfl <| .gu rfl rfl <| .gu rfl rfl <| .gu rfl rfl <| .gu rfl rfl <| .gu rfl rfl <| .gu rfl rfl <| .gu rfl rfl <| .gu rfl rfl <| .gu rfl rfl <| .gu rfl rfl <| .gu rfl rfl <| .gu rfl rfl <| .gs rfl rfl rfl <| .gs rfl rfl rfl <| .gu rfl rfl <| .gu rfl rfl <| .gu rfl rfl <| .gu rfl rfl <| .gs rfl rfl rfl <| .pickF rfl rfl rfl <| .nil <| .condF rfl <| .skip <| .seq <| .seq <| .reg <| .fa rfl rfl <| .ldE rfl rfl rfl rfl <| .bB (fun h12 => ?_) (fun h12 => ?_)
    · refine .notT rfl rfl <| .mv rfl rfl <| .gs rfl rfl rfl <| .gs rfl rfl rfl <| .gs rfl rfl rfl <| .gs rfl rfl rfl <| .gs rfl rfl rfl <| .gs rfl rfl rfl <| .gs rfl rfl rfl <| .gu rfl rfl <| .gu rfl rfl <| .gu rfl rfl <| .gs rfl rfl rfl <| .gs rfl rfl rfl <| .gu rfl rfl <| .gu rfl rfl <| .gu rfl rfl <| .gs rfl rfl rfl <| .gs rfl rfl rfl <| .gu rfl rfl <| .gu rfl rfl <| .gu rfl rfl <| .gu rfl rfl <| .gu rfl rfl <| .gu rfl rfl <| .gu rfl rfl <| .gs rfl rfl rfl <| .gs rfl rfl rfl <| .gu rfl rfl <| .gu rfl rfl <| .gu rfl rfl <| .gu rfl rfl <| .gs rfl rfl rfl <| .gs rfl rfl rfl <| .gu rfl rfl <| .gu rfl rfl <| .gu rfl rfl <| .gu rfl rfl <| .gs rfl rfl rfl <| .pickF rfl rfl rfl <| .nil <| .condF rfl <| .skip <| .seq <| .reg <| .aE rfl rfl rfl rfl <| .mv rfl rfl <| ?_
      obtain ⟨l, hl, R1⟩ := s_l5Node t ks h hk
      refine .c rfl rfl rfl R1 .refl rfl rfl rfl (by decide) <| ?_
      obtain ⟨bs, ok, hb, R2⟩ := s_l5Nums l hl
      refine .c rfl rfl rfl R2 (.c (.fz (.rw (fun h => h))) .n) rfl rfl rfl (by decide) <| .ex rfl rfl rfl <| .ex rfl rfl rfl <| .mv rfl rfl <| .mv rfl rfl <| .nil <| .ret rfl (by first | exact ⟨bs, ok, rfl, rfl, hb⟩ | exact ⟨[], false, rfl, rfl, by decide⟩) (.tup2 (by first | exact .rw (fun _ => rfl) | exact .ox rfl (fun _ => rfl)) .r) LeBs.refl
    · refine .notF rfl rfl <| .mv rfl rfl <| .g rfl rfl <| .mv rfl rfl <| .g rfl rfl <| .len rfl rfl rfl <| .g rfl rfl <| .fa rfl rfl <| .g rfl rfl <| .ldE rfl rfl rfl rfl <| .g rfl rfl <| .len rfl rfl rfl <| .g rfl rfl <| .neq rfl rfl rfl (fun h13 => ?_) (fun h13 => ?_)
      · refine .g rfl rfl <| .mv rfl rfl <| .gs rfl rfl rfl <| .gs rfl rfl rfl <| .gs rfl rfl rfl <| .g rfl rfl <| .pickT rfl rfl rfl <| .g rfl rfl <| .mv rfl rfl <| .gs rfl rfl rfl <| .gs rfl rfl rfl <| .gs rfl rfl rfl <| .g rfl rfl <| .pickT rfl rfl rfl <| .g rfl rfl <| .mv rfl rfl <| .gs rfl rfl rfl <| .gs rfl rfl rfl <| .gs rfl rfl rfl <| .gs rfl rfl rfl <| .gs rfl rfl rfl <| .gs rfl rfl rfl <| .gs rfl rfl rfl <| .g rfl rfl <| .pickT rfl rfl rfl <| .g rfl rfl <| .mv rfl rfl <| .gs rfl rfl rfl <| .gs rfl rfl rfl <| .gs rfl rfl rfl <| .gs rfl rfl rfl <| .g rfl rfl <| .pickT rfl rfl rfl <| .g rfl rfl <| .mv rfl rfl <| .gs rfl rfl rfl <| .gs rfl rfl rfl <| .gs rfl rfl rfl <| .gs rfl rfl rfl <| .g rfl rfl <| .pickT rfl rfl rfl <| .pickT rfl rfl rfl <| .nil <| .condT rfl <| .seq <| .reg <| .row0 rfl rfl rfl <| .mv rfl rfl <| .mv rfl rfl <| .nil <| .ret rfl (by first | exact ⟨bs, ok, rfl, rfl, hb⟩ | exact ⟨[], false, rfl, rfl, by decide⟩) (.tup2 (by first | exact .rw (fun _ => rfl) | exact .ox rfl (fun _ => rfl)) .r) LeBs.refl
      · refine .g rfl rfl <| .mv rfl rfl <| .g rfl rfl <| .mv rfl rfl <| .g rfl rfl <| .len rfl rfl rfl <| .g rfl rfl <| .eql rfl rfl rfl (fun h14 => ?_) (fun h14 => ?_)
        · refine .g rfl rfl <| .pickF rfl rfl rfl <| .g rfl rfl <| .mv rfl rfl <| .gs rfl rfl rfl <| .gs rfl rfl rfl <| .gs rfl rfl rfl <| .g rfl rfl <| .pickT rfl rfl rfl <| .g rfl rfl <| .mv rfl rfl <| .gs rfl rfl rfl <| .gs rfl rfl rfl <| .gs rfl rfl rfl <| .gs rfl rfl rfl <| .gs rfl rfl rfl <| .gs rfl rfl rfl <| .gs rfl rfl rfl <| .g rfl rfl <| .pickT rfl rfl rfl <| .g rfl rfl <| .mv rfl rfl <| .gs rfl rfl rfl <| .gs rfl rfl rfl <| .gs rfl rfl rfl <| .gs rfl rfl rfl <| .g rfl rfl <| .pickT rfl rfl rfl <| .g rfl rfl <| .mv rfl rfl <| .gs rfl rfl rfl <| .gs rfl rfl rfl <| .gs rfl rfl rfl <| .gs rfl rfl rfl <| .g rfl rfl <| .pickT rfl rfl rfl <| .pickT rfl rfl rfl <| .nil <| .condT rfl <| .seq <| .reg <| .row0 rfl rfl rfl <| .mv rfl rfl <| .mv rfl rfl <| .nil <| .ret rfl (by first | exact ⟨bs, ok, rfl, rfl, hb⟩ | exact ⟨[], false, rfl, rfl, by decide⟩) (.tup2 (by first | exact .rw (fun _ => rfl) | exact .ox rfl (fun _ => rfl)) .r) LeBs.refl
        · refine .g rfl rfl <| .pickF rfl rfl rfl <| .g rfl rfl <| .mv rfl rfl <| .g rfl rfl <| .mv rfl rfl <| .g rfl rfl <| .len rfl rfl rfl <| .g rfl rfl <| .gtr rfl rfl rfl (fun h15 => ?_) (fun h15 => ?_)
          · refine .g rfl rfl <| .pickF rfl rfl rfl <| .g rfl rfl <| .mv rfl rfl <| .gs rfl rfl rfl <| .gs rfl rfl rfl <| .gs rfl rfl rfl <| .gs rfl rfl rfl <| .gs rfl rfl rfl <| .gs rfl rfl rfl <| .gs rfl rfl rfl <| .g rfl rfl <| .pickT rfl rfl rfl <| .g rfl rfl <| .mv rfl rfl <| .gs rfl rfl rfl <| .gs rfl rfl rfl <| .gs rfl rfl rfl <| .gs rfl rfl rfl <| .g rfl rfl <| .pickT rfl rfl rfl <| .g rfl rfl <| .mv rfl rfl <| .gs rfl rfl rfl <| .gs rfl rfl rfl <| .gs rfl rfl rfl <| .gs rfl rfl rfl <| .g rfl rfl <| .pickT rfl rfl rfl <| .pickT rfl rfl rfl <| .nil <| .condT rfl <| .seq <| .reg <| .row0 rfl rfl rfl <| .mv rfl rfl <| .mv rfl rfl <| .nil <| .ret rfl (by first | exact ⟨bs, ok, rfl, rfl, hb⟩ | exact ⟨[], false, rfl, rfl, by decide⟩) (.tup2 (by first | exact .rw (fun _ => rfl) | exact .ox rfl (fun _ => rfl)) .r) LeBs.refl
          · refine .g rfl rfl <| .pickF rfl rfl rfl <| .g rfl rfl <| .mv rfl rfl <| .g rfl rfl <| .fa rfl rfl <| .g rfl rfl <| .ldE rfl rfl rfl rfl <| .g rfl rfl <| .len rfl rfl rfl <| .g rfl rfl <| .mv rfl rfl <| .g rfl rfl <| .len rfl rfl rfl <| .g rfl rfl <| .sub rfl rfl rfl (by omega) <| .g rfl rfl <| .neq rfl rfl rfl (fun h16 => ?_) (fun h16 => ?_)
            · refine .g rfl rfl <| .pickF rfl rfl rfl <| .g rfl rfl <| .mv rfl rfl <| .gs rfl rfl rfl <| .gs rfl rfl rfl <| .gs rfl rfl rfl <| .gs rfl rfl rfl <| .g rfl rfl <| .pickT rfl rfl rfl <| .g rfl rfl <| .mv rfl rfl <| .gs rfl rfl rfl <| .gs rfl rfl rfl <| .gs rfl rfl rfl <| .gs rfl rfl rfl <| .g rfl rfl <| .pickT rfl rfl rfl <| .pickT rfl rfl rfl <| .nil <| .condT rfl <| .seq <| .reg <| .row0 rfl rfl rfl <| .mv rfl rfl <| .mv rfl rfl <| .nil <| .ret rfl (by first | exact ⟨bs, ok, rfl, rfl, hb⟩ | exact ⟨[], false, rfl, rfl, by decide⟩) (.tup2 (by first | exact .rw (fun _ => rfl) | exact .ox rfl (fun _ => rfl)) .r) LeBs.refl
            · refine .g rfl rfl <| .pickF rfl rfl rfl <| .g rfl rfl <| .mv rfl rfl <| .g rfl rfl <| .fa rfl rfl <| .g rfl rfl <| .ldE rfl rfl rfl rfl <| .g rfl rfl <| .len rfl rfl rfl <| .g rfl rfl <| .gtr rfl rfl rfl (fun h17 => ?_) (fun h17 => ?_)
              · refine .g rfl rfl <| .pickF rfl rfl rfl <| .g rfl rfl <| .mv rfl rfl <| .gs rfl rfl rfl <| .gs rfl rfl rfl <| .gs rfl rfl rfl <| .gs rfl rfl rfl <| .g rfl rfl <| .pickT rfl rfl rfl <| .pickT rfl rfl rfl <| .nil <| .condT rfl <| .seq <| .reg <| .row0 rfl rfl rfl <| .mv rfl rfl <| .mv rfl rfl <| .nil <| .ret rfl (by first | exact ⟨bs, ok, rfl, rfl, hb⟩ | exact ⟨[], false, rfl, rfl, by decide⟩) (.tup2 (by first | exact .rw (fun _ => rfl) | exact .ox rfl (fun _ => rfl)) .r) LeBs.refl
              · refine .g rfl rfl <| .pickF rfl rfl rfl <| .g rfl rfl <| .mv rfl rfl <| .g rfl rfl <| .fa rfl rfl <| .g rfl rfl <| .ldE rfl rfl rfl rfl <| .g rfl rfl <| .len rfl rfl rfl <| .g rfl rfl <| .gtr rfl rfl rfl (fun h18 => ?_) (fun h18 => ?_)
                · refine .g rfl rfl <| .pickF rfl rfl rfl <| .pickT rfl rfl rfl <| .nil <| .condT rfl <| .seq <| .reg <| .row0 rfl rfl rfl <| .mv rfl rfl <| .mv rfl rfl <| .nil <| .ret rfl (by first | exact ⟨bs, ok, rfl, rfl, hb⟩ | exact ⟨[], false, rfl, rfl, by decide⟩) (.tup2 (by first | exact .rw (fun _ => rfl) | exact .ox rfl (fun _ => rfl)) .r) LeBs.refl
                · refine .g rfl rfl <| .pickF rfl rfl rfl <| .pickT rfl rfl rfl <| .nil <| .condF rfl <| .skip <| .seq <| .reg <| .aE rfl rfl rfl rfl <| .mv rfl rfl <| ?_
                  obtain ⟨l, hl, R1⟩ := s_l5Node t ks h hk
                  refine .c rfl rfl rfl R1 .refl rfl rfl rfl (by decide) <| ?_
                  obtain ⟨bs, ok, hb, R2⟩ := s_l5Nums l hl
                  refine .c rfl rfl rfl R2 (.c (.fz (.rw (fun h => h))) .n) rfl rfl rfl (by decide) <| .ex rfl rfl rfl <| .ex rfl rfl rfl <| .mv rfl rfl <| .mv rfl rfl <| .nil <| .ret rfl (by first | exact ⟨bs, ok, rfl, rfl, hb⟩ | exact ⟨[], false, rfl, rfl, by decide⟩) (.tup2 (by first | exact .rw (fun _ => rfl) | exact .ox rfl (fun _ => rfl)) .r) LeBs.refl
theorem s_PutNode (t : Tr) (ks : List Int) (h : t.sz ≤ 10000) (hk : ks.length ≤ 10000) : ∃ (bs : List UInt8) (ok : Bool), (bs.length ≤ 700000) ∧ RF Y 88 [.agg t.e, .fro true 1 (ks.map Ic)] (.tup [.own true 1 0 (bs.map Bc), .b ok]) [] := by
  obtain ⟨r, o, ⟨bs, ok, rfl, rfl, hp⟩, hr⟩ := s_PutNode_x t ks h hk
  exact ⟨bs, ok, hp, hr⟩
theorem s_GetNum_x (b : List UInt8) (at_ : Nat) (h : b.length ≤ 1000000) (ha : at_ ≤ b.length) : RFx Y 134 [.fro true 1 (b.map Bc), i64 at_] (fun r o => ∃ (x : Int) (nx : Nat) (ok : Bool), r = .tup [i64 x, i64 nx, .b ok] ∧ o = [] ∧ nx ≤ b.length) := by
  refine RFx.s2 rfl rfl rfl ?_
  refine .seq <| .reg <| .mv rfl rfl <| .mv rfl rfl <| .mv rfl rfl <| .nil <| .seq <| .seq <| .reg <| .mv rfl rfl <| .lss rfl rfl rfl (fun h1 => ?_) (fun h1 => ?_)
  · refine .mv rfl rfl <| .gs rfl rfl rfl <| .gs rfl rfl rfl <| .gs rfl rfl rfl <| .gs rfl rfl rfl <| .pickT rfl rfl rfl <| .nil <| .condT rfl <| .seq <| .reg <| .mv rfl rfl <| .mv rfl rfl <| .mv rfl rfl <| .nil <| .ret rfl ⟨0, 0, false, rfl, rfl, Nat.zero_le _⟩ .r LeBs.refl
  · refine .mv rfl rfl <| .g rfl rfl <| .mv rfl rfl <| .g rfl rfl <| .mv rfl rfl <| .g rfl rfl <| .len rfl rfl rfl <| .g rfl rfl <| .geq rfl rfl rfl (fun h2 => ?_) (fun h2 => ?_)
    · refine .pickF rfl rfl rfl <| .nil <| .condT rfl <| .seq <| .reg <| .mv rfl rfl <| .mv rfl rfl <| .mv rfl rfl <| .nil <| .ret rfl ⟨0, 0, false, rfl, rfl, Nat.zero_le _⟩ .r LeBs.refl
    · refine .pickF rfl rfl rfl <| .nil <| .condF rfl <| .skip <| .seq <| .reg <| .mv rfl rfl <| .nil <| .seq <| .seq <| .reg <| .mv rfl rfl <| .nil <| .block <| ?_
      refine RA.loopI fun T0 hT0 nT0 eT0 => ?_
      have L0 : ∀ (f k : Nat) (n : Int) (Q : Qst), k + f = 5 → (∀ (x : Int) (nx : Nat) (ok : Bool), nx ≤ b.length → Q (.tup [i64 x, i64 nx, .b ok]) []) →
          RA Y a134 T0 [(0, .fro true 1 (b.map Bc)), (1, i64 at_), (7, i64 n), (8, i64 k)] [] 0 Q := by
        intro f
        induction f using Nat.strongRecOn with
        | _ f IH =>
          intro k n Q hf hQ
          rw [eT0]
          refine .seq <| .seq <| .reg <| .mv rfl rfl <| .lss rfl rfl rfl (fun h3 => ?_) (fun h3 => ?_)
          · refine .mv rfl rfl <| .g rfl rfl <| .mv rfl rfl <| .g rfl rfl <| .mv rfl rfl <| .g rfl rfl <| .add rfl rfl rfl (by omega) <| .g rfl rfl <| .mv rfl rfl <| .g rfl rfl <| .len rfl rfl rfl <| .g rfl rfl <| .lss rfl rfl rfl (fun h4 => ?_) (fun h4 => ?_)
            · obtain ⟨u, hu⟩ : ∃ u, b[at_ + k]? = some u := ⟨_, getD_at (by omega)⟩
              have hu' := u.toNat_lt
              refine .pickT rfl rfl rfl <| .nil <| .condT rfl <| .skip <| .seq <| .block <| .seq <| .reg <| .mv rfl rfl <| .mv rfl rfl <| .mv rfl rfl <| .add rfl rfl rfl (by omega) <| .ia rfl rfl rfl (by assumption) <| .ldF rfl rfl rfl <| .cv8 rfl rfl <| .mv rfl rfl <| .nil <| .seq <| .reg <| .mv rfl rfl <| .mv rfl rfl <| .rem rfl rfl rfl (by first | decide | omega) <| .mv rfl rfl <| .mul rfl rfl rfl (by omega) <| .any rfl rfl <| fun z1 => .any rfl rfl <| fun z2 => .mv rfl rfl <| .nil <| .seq <| .seq <| .reg <| .mv rfl rfl <| .geq rfl rfl rfl (fun h5 => ?_) (fun h5 => ?_)
              · refine .nil <| .condT rfl <| .exit rfl <| .reg <| .mv rfl rfl <| .add rfl rfl rfl (by omega) <| .mv rfl rfl <| .nil <| hT0 <| ?_
                exact RA.wr [] (IH (f - 1) (by omega) (k + 1) z2 _ (by omega) hQ) nT0 (by repeat (first | exact .nil | refine .k rfl rfl ?_ | refine .r rfl rfl ?_ | refine .l rfl rfl rfl ?_ | refine .i rfl (by simp) ?_ | refine .f rfl (.rw id) rfl ?_ | refine .f rfl .emp rfl ?_ | refine .cl rfl ?_ | refine .c rfl (.clo rfl (pairC (.v .refl rfl) (pair1 (.v .refl rfl)))) ?_ | refine .c rfl (.clo rfl (pair1 (.v .refl rfl))) ?_)) .nil
              · refine .nil <| .condF rfl <| .skip <| .seq <| .reg <| .mv rfl rfl <| .any rfl rfl <| fun z3 => .mv rfl rfl <| .nil <| .seq <| .seq <| .reg <| .mv rfl rfl <| .rem rfl rfl rfl (by first | decide | omega) <| .eql rfl rfl rfl (fun h6 => ?_) (fun h6 => ?_)
                · refine .nil <| .condT rfl <| .reg <| .mv rfl rfl <| .any rfl rfl <| fun z3 => .any rfl rfl <| fun z3 => .any rfl rfl <| fun z3 => .mv rfl rfl <| .nil <| .seq <| .seq <| .reg <| .mv rfl rfl <| .eql rfl rfl rfl (fun h7 => ?_) (fun h7 => ?_)
                  · refine .mv rfl rfl <| .g rfl rfl <| .mv rfl rfl <| .g rfl rfl <| .gtr rfl rfl rfl (fun h8 => ?_) (fun h8 => ?_)
                    · refine .pickT rfl rfl rfl <| .mv rfl rfl <| .gs rfl rfl rfl <| .gs rfl rfl rfl <| .gs rfl rfl rfl <| .gs rfl rfl rfl <| .pickT rfl rfl rfl <| .nil <| .condT rfl <| .seq <| .reg <| .mv rfl rfl <| .mv rfl rfl <| .mv rfl rfl <| .nil <| .ret rfl (by first | exact hQ z3 (at_ + k + 1) true (by omega) | exact hQ 0 0 false (Nat.zero_le _)) .r LeBs.refl
                    · refine .pickT rfl rfl rfl <| .mv rfl rfl <| .g rfl rfl <| .mv rfl rfl <| .g rfl rfl <| ?_
                      obtain ⟨pb, hpb, R1⟩ := s_PutNum z3
                      refine .c rfl rfl rfl R1 .refl rfl rfl rfl (by decide) <| .g rfl rfl <| .len rfl rfl rfl <| .g rfl rfl <| .eql rfl rfl rfl (fun h9 => ?_) (fun h9 => ?_)
                      · refine .pickF rfl rfl rfl <| .nil <| .condT rfl <| .seq <| .reg <| .mv rfl rfl <| .mv rfl rfl <| .mv rfl rfl <| .nil <| .ret rfl (by first | exact hQ z3 (at_ + k + 1) true (by omega) | exact hQ 0 0 false (Nat.zero_le _)) .r LeBs.refl
                      · refine .pickF rfl rfl rfl <| .nil <| .condF rfl <| .skip <| .seq <| .reg <| .mv rfl rfl <| .mv rfl rfl <| .mv rfl rfl <| .add rfl rfl rfl (by omega) <| .add rfl rfl rfl (by omega) <| .mv rfl rfl <| .mv rfl rfl <| .mv rfl rfl <| .nil <| .ret rfl (by first | exact hQ z3 (at_ + k + 1) true (by omega) | exact hQ 0 0 false (Nat.zero_le _)) .r LeBs.refl
                  · refine .mv rfl rfl <| .gs rfl rfl rfl <| .gs rfl rfl rfl <| .pickF rfl rfl rfl <| .mv rfl rfl <| .g rfl rfl <| .mv rfl rfl <| .g rfl rfl <| ?_
                    obtain ⟨pb, hpb, R1⟩ := s_PutNum z3
                    refine .c rfl rfl rfl R1 .refl rfl rfl rfl (by decide) <| .g rfl rfl <| .len rfl rfl rfl <| .g rfl rfl <| .eql rfl rfl rfl (fun h10 => ?_) (fun h10 => ?_)
                    · refine .pickF rfl rfl rfl <| .nil <| .condT rfl <| .seq <| .reg <| .mv rfl rfl <| .mv rfl rfl <| .mv rfl rfl <| .nil <| .ret rfl (by first | exact hQ z3 (at_ + k + 1) true (by omega) | exact hQ 0 0 false (Nat.zero_le _)) .r LeBs.refl
                    · refine .pickF rfl rfl rfl <| .nil <| .condF rfl <| .skip <| .seq <| .reg <| .mv rfl rfl <| .mv rfl rfl <| .mv rfl rfl <| .add rfl rfl rfl (by omega) <| .add rfl rfl rfl (by omega) <| .mv rfl rfl <| .mv rfl rfl <| .mv rfl rfl <| .nil <| .ret rfl (by first | exact hQ z3 (at_ + k + 1) true (by omega) | exact hQ 0 0 false (Nat.zero_le _)) .r LeBs.refl
                · refine .nil <| .condF rfl <| .skip <| .seq <| .seq <| .reg <| .mv rfl rfl <| .eql rfl rfl rfl (fun h11 => ?_) (fun h11 => ?_)
                  · refine .mv rfl rfl <| .g rfl rfl <| .mv rfl rfl <| .g rfl rfl <| .gtr rfl rfl rfl (fun h12 => ?_) (fun h12 => ?_)
                    · refine .pickT rfl rfl rfl <| .mv rfl rfl <| .gs rfl rfl rfl <| .gs rfl rfl rfl <| .gs rfl rfl rfl <| .gs rfl rfl rfl <| .pickT rfl rfl rfl <| .nil <| .condT rfl <| .seq <| .reg <| .mv rfl rfl <| .mv rfl rfl <| .mv rfl rfl <| .nil <| .ret rfl (by first | exact hQ z3 (at_ + k + 1) true (by omega) | exact hQ 0 0 false (Nat.zero_le _)) .r LeBs.refl
                    · refine .pickT rfl rfl rfl <| .mv rfl rfl <| .g rfl rfl <| .mv rfl rfl <| .g rfl rfl <| ?_
                      obtain ⟨pb, hpb, R1⟩ := s_PutNum z3
                      refine .c rfl rfl rfl R1 .refl rfl rfl rfl (by decide) <| .g rfl rfl <| .len rfl rfl rfl <| .g rfl rfl <| .eql rfl rfl rfl (fun h13 => ?_) (fun h13 => ?_)
                      · refine .pickF rfl rfl rfl <| .nil <| .condT rfl <| .seq <| .reg <| .mv rfl rfl <| .mv rfl rfl <| .mv rfl rfl <| .nil <| .ret rfl (by first | exact hQ z3 (at_ + k + 1) true (by omega) | exact hQ 0 0 false (Nat.zero_le _)) .r LeBs.refl
                      · refine .pickF rfl rfl rfl <| .nil <| .condF rfl <| .skip <| .seq <| .reg <| .mv rfl rfl <| .mv rfl rfl <| .mv rfl rfl <| .add rfl rfl rfl (by omega) <| .add rfl rfl rfl (by omega) <| .mv rfl rfl <| .mv rfl rfl <| .mv rfl rfl <| .nil <| .ret rfl (by first | exact hQ z3 (at_ + k + 1) true (by omega) | exact hQ 0 0 false (Nat.zero_le _)) .r LeBs.refl
                  · refine .mv rfl rfl <| .gs rfl rfl rfl <| .gs rfl rfl rfl <| .pickF rfl rfl rfl <| .mv rfl rfl <| .g rfl rfl <| .mv rfl rfl <| .g rfl rfl <| ?_
                    obtain ⟨pb, hpb, R1⟩ := s_PutNum z3
                    refine .c rfl rfl rfl R1 .refl rfl rfl rfl (by decide) <| .g rfl rfl <| .len rfl rfl rfl <| .g rfl rfl <| .eql rfl rfl rfl (fun h14 => ?_) (fun h14 => ?_)
                    · refine .pickF rfl rfl rfl <| .nil <| .condT rfl <| .seq <| .reg <| .mv rfl rfl <| .mv rfl rfl <| .mv rfl rfl <| .nil <| .ret rfl (by first | exact hQ z3 (at_ + k + 1) true (by omega) | exact hQ 0 0 false (Nat.zero_le _)) .r LeBs.refl
                    · refine .pickF rfl rfl rfl <| .nil <| .condF rfl <| .skip <| .seq <| .reg <| .mv rfl rfl <| .mv rfl rfl <| .mv rfl rfl <| .add rfl rfl rfl (by omega) <| .add rfl rfl rfl (by omega) <| .mv rfl rfl <| .mv rfl rfl <| .mv rfl rfl <| .nil <| .ret rfl (by first | exact hQ z3 (at_ + k + 1) true (by omega) | exact hQ 0 0 false (Nat.zero_le _)) .r LeBs.refl
            · refine .pickT rfl rfl rfl <| .nil <| .condF rfl <| .exit rfl <| .seq <| .reg <| .mv rfl rfl <| .mv rfl rfl <| .mv rfl rfl <| .nil <| .ret rfl (by first | exact hQ z3 (at_ + k + 1) true (by omega) | exact hQ 0 0 false (Nat.zero_le _)) .r LeBs.refl
          · refine .mv rfl rfl <| .gs rfl rfl rfl <| .gs rfl rfl rfl <| .gs rfl rfl rfl <| .gs rfl rfl rfl <| .gs rfl rfl rfl <| .gs rfl rfl rfl <| .pickF rfl rfl rfl <| .nil <| .condF rfl <| .exit rfl <| .seq <| .reg <| .mv rfl rfl <| .mv rfl rfl <| .mv rfl rfl <| .nil <| .ret rfl (by first | exact hQ z3 (at_ + k + 1) true (by omega) | exact hQ 0 0 false (Nat.zero_le _)) .r LeBs.refl
      exact RA.wr [] (L0 5 0 0 _ rfl (fun x nx ok hn => ⟨x, nx, ok, rfl, rfl, hn⟩)) nT0 (by repeat (first | exact .nil | refine .k rfl rfl ?_ | refine .r rfl rfl ?_ | refine .l rfl rfl rfl ?_ | refine .i rfl (by simp) ?_ | refine .f rfl (.rw id) rfl ?_ | refine .f rfl .emp rfl ?_ | refine .cl rfl ?_ | refine .c rfl (.clo rfl (pairC (.v .refl rfl) (pair1 (.v .refl rfl)))) ?_ | refine .c rfl (.clo rfl (pair1 (.v .refl rfl))) ?_)) .nil
theorem s_GetNum (b : List UInt8) (at_ : Nat) (h : b.length ≤ 1000000) (ha : at_ ≤ b.length) : ∃ (x : Int) (nx : Nat) (ok : Bool), (nx ≤ b.length) ∧ RF Y 134 [.fro true 1 (b.map Bc), i64 at_] (.tup [i64 x, i64 nx, .b ok]) [] := by
  obtain ⟨r, o, ⟨x, nx, ok, rfl, rfl, hp⟩, hr⟩ := s_GetNum_x b at_ h ha
  exact ⟨x, nx, ok, hp, hr⟩
end Go.Proofs.Ytjjocahgbmibeaa

namespace Go.Proofs.Ytjjocahgbmibeaa
open Go.Eng
set_option maxRecDepth 4000
set_option linter.unusedSimpArgs false
set_option linter.unusedVariables false
def Cb (b : List UInt8) (a : Nat) (ok : Bool) : List AV := [.fro true 1 (b.map Bc), .i .i64 a, .b ok]
instance {n mem} (b : List UInt8) (a : Nat) (ok : Bool) : ImpC n (Cb b a ok) mem (Cb b a ok) mem n := ⟨[], rfl, rfl⟩
theorem bytes_cells : ∀ l : List UInt8, (l.map Bc).mapM byteCell = some (l.map fun u => u.toNat)
  | [] => rfl
  | u :: l => by
    have hu := u.toNat_lt
    rw [List.map_cons, List.mapM_cons, bytes_cells l]
    have : byteCell (Bc u) = some u.toNat := by
      unfold byteCell Bc
      simp only
      rw [if_pos (by omega)]
      simp
    rw [this]; rfl
theorem bytes_of (l : List UInt8) : bytesCells (l.map Bc) = some ⟨l.toArray⟩ := by
  unfold bytesCells
  rw [bytes_cells]
  simp [Function.comp_def]
theorem _root_.Go.Eng.RO.cvSt {Y : EngSys} {fn : AFn} {ops rest : List AOper} {i : Nat} {k : List AItem} {env : Env'} {mem : Mem'} {next d : Nat} {Q : Qst} {x : AOpd} {fl : Bool} {xs : List (List AV)} {bs : List UInt8} {w : AV} [hw : Rw xs bs Bc] (h : ops = ⟨some d, .cvS x, none⟩ :: rest) (hx : x.lk env = some w) (hs : sliceOf (Eng.look mem) 1 w = some (fl, xs)) (h' : RO Y fn rest (i + 1) k ((d, .s ⟨bs.toArray⟩) :: env) mem next Q) : RO Y fn ops i k env mem next Q :=
  RO.p h (by simp only [AOp.map, act, AOpd.lk_get hx, hs, Option.bind_some]; rw [hw.eq, bytes_of]; rfl) h'
abbrev GNQ : Qst := fun r o => ∃ (ks : List Int) (ok : Bool), r = .tup [.agg [.junk, .junk, .junk, .junk, .junk], .own true 1 0 (ks.map Ic), .b ok] ∧ o = [] ∧ ks.length ≤ 4
theorem s_l5Num_x (b : List UInt8) (a : Nat) (ok : Bool) (h : b.length ≤ 1000000) (ha : a ≤ b.length) : RFx Y 87 [.obx (Cb b a ok) 0] (fun r o => ∃ (x : Int) (a' : Nat) (ok' : Bool), r = i64 x ∧ o = [.obx (Cb b a' ok') 0] ∧ a' ≤ b.length) := by
  refine RFx.s1 rfl rfl rfl ?_
  refine .seq <| .reg <| .mv rfl rfl <| .nil <| .seq <| .regD <| .mv rfl rfl <| .nc rfl rfl <| .fa rfl rfl <| .ldE rfl rfl rfl rfl <| .mv rfl rfl <| .nc rfl rfl <| .fa rfl rfl <| .ldE rfl rfl rfl rfl <| ?_
  obtain ⟨x1, a1, ok1, ha1, R1⟩ := s_GetNum b a h ha
  refine .c rfl rfl rfl R1 .refl rfl rfl rfl (by decide) <| .mv rfl rfl <| .ex rfl rfl rfl <| .ex rfl rfl rfl <| .ex rfl rfl rfl <| .bB (fun h1 => ?_) (fun h1 => ?_)
  · refine .mv rfl rfl <| .mv rfl rfl <| .mv rfl rfl <| .nil (by kernel_rfl) <| .seq <| .seq <| .reg <| .mv rfl rfl <| .notT rfl rfl <| .mv rfl rfl <| .g rfl rfl <| .mv rfl rfl <| .g rfl rfl <| .nc rfl rfl <| .g rfl rfl <| .fa rfl rfl <| .g rfl rfl <| .ldE rfl rfl rfl rfl <| .bB (fun h2 => ?_) (fun h2 => ?_)
    · refine .g rfl rfl <| .notT rfl rfl <| .pickF rfl rfl rfl <| .nil <| .condF rfl <| .skip <| .seq <| .reg <| .mv rfl rfl <| .mv rfl rfl <| .nc rfl rfl <| .fa rfl rfl <| .st1 rfl rfl rfl rfl rfl (of_decide_eq_true rfl) <| .nil <| .seq <| .reg <| .mv rfl rfl <| .mv rfl rfl <| .nil <| .ret rfl ⟨x1, a1, ok, rfl, rfl, ha1⟩ .r LeBs.refl
    · refine .g rfl rfl <| .notF rfl rfl <| .pickF rfl rfl rfl <| .nil <| .condT rfl <| .seq <| .reg <| .mv rfl rfl <| .nc rfl rfl <| .fa rfl rfl <| .st1 rfl rfl rfl rfl rfl (of_decide_eq_true rfl) <| .nil <| .seq <| .reg <| .mv rfl rfl <| .nil <| .ret rfl ⟨0, a, false, rfl, rfl, ha⟩ .r LeBs.refl
  · refine .mv rfl rfl <| .mv rfl rfl <| .mv rfl rfl <| .nil (by kernel_rfl) <| .seq <| .seq <| .reg <| .mv rfl rfl <| .notF rfl rfl <| .mv rfl rfl <| .gs rfl rfl rfl <| .gs rfl rfl rfl <| .gs rfl rfl rfl <| .gs rfl rfl rfl <| .gs rfl rfl rfl <| .pickT rfl rfl rfl <| .nil <| .condT rfl <| .seq <| .reg <| .mv rfl rfl <| .nc rfl rfl <| .fa rfl rfl <| .st1 rfl rfl rfl rfl rfl (of_decide_eq_true rfl) <| .nil <| .seq <| .reg <| .mv rfl rfl <| .nil <| .ret rfl ⟨0, a, false, rfl, rfl, ha⟩ .r LeBs.refl
theorem s_l5Num (b : List UInt8) (a : Nat) (ok : Bool) (h : b.length ≤ 1000000) (ha : a ≤ b.length) : ∃ (x : Int) (a' : Nat) (ok' : Bool), (a' ≤ b.length) ∧ RF Y 87 [.obx (Cb b a ok) 0] (i64 x) [.obx (Cb b a' ok') 0] := by
  obtain ⟨r, o, ⟨x, a', ok', rfl, rfl, hp⟩, hr⟩ := s_l5Num_x b a ok h ha
  exact ⟨x, a', ok', hp, hr⟩
theorem s_GetNode_x (b : List UInt8) (h : b.length ≤ 1000000) : RFx Y 40 [.fro true 1 (b.map Bc)] (GNQ) := by
  refine RFx.s1 rfl rfl rfl ?_
  refine .seq <| .reg <| .new rfl <| .mv rfl rfl <| .mv rfl rfl <| .nil <| .seq <| .reg <| .mv rfl rfl <| .build (cs := [_, _, _]) rfl rfl rfl <| .box rfl rfl rfl <| .mv rfl rfl <| .nil <| ?_
  refine RA.seqJ rfl fun J3 nJ3 eJ3 => ?_
  have K3 : ∀ (a : Nat) (ok lf : Bool), a ≤ b.length → RA Y a40 J3 [(0, .fro true 1 (b.map Bc)), (2, .elt 0 0 0), (5, .elt 1 0 0), (6, .elt 2 0 0)] [(0, .box [.b false, .emp, .emp, .emp, .emp]), (1, .box (Cb b a ok)), (2, .box [.b lf, .emp, .emp, .emp, .emp])] 3 GNQ := by
    intro a ok lf ha
    rw [eJ3]
    refine .seq <| .reg <| .row0 rfl rfl rfl <| .mv rfl rfl <| .nil <| .seq <| .reg <| .mv rfl rfl <| ?_
    obtain ⟨x1, a1, ok1, ha1, R1⟩ := s_l5Num b a ok h ha
    refine .cPz rfl rfl rfl R1 .refl rfl rfl rfl (by decide) <| .mv rfl rfl <| .nil <| ?_
    refine RA.seqJ rfl fun J6 nJ6 eJ6 => ?_
    have K6 : ∀ (a : Nat) (ok lf : Bool) (n : Int), a ≤ b.length → (ok = true → 0 ≤ n ∧ n ≤ 4) → RA Y a40 J6 [(0, .fro true 1 (b.map Bc)), (2, .elt 0 0 0), (5, .elt 1 0 0), (6, .elt 2 0 0), (7, .row 3), (8, i64 n)] [(0, .box [.b false, .emp, .emp, .emp, .emp]), (1, .box (Cb b a ok)), (2, .box [.b lf, .emp, .emp, .emp, .emp]), (3, .row true 1 0 [])] 4 GNQ := by
      intro a ok lf n ha hn
      rw [eJ6]
      refine RA.seqJ rfl fun J12 nJ12 eJ12 => ?_
      have K12 : ∀ (a : Nat) (ok : Bool) (ps : List Pr), a ≤ b.length → (ok = true → 0 ≤ n ∧ n ≤ 4) → ps.length ≤ 5 → RA Y a40 J12 [(0, .fro true 1 (b.map Bc)), (2, .elt 0 0 0), (5, .elt 1 0 0), (6, .elt 2 0 0), (7, .row 3), (8, i64 n)] [(0, .box [.b false, .emp, .emp, .emp, .emp]), (1, .box (Cb b a ok)), (2, .box [.b lf, .row 4, .emp, .emp, .emp]), (3, .row true 1 0 []), (4, .row true 2 0 (ps.map Pr.c))] 5 GNQ := by
        intro a ok ps ha hn hps
        rw [eJ12]
        refine RA.seqJ rfl fun J31 nJ31 eJ31 => ?_
        have K31 : ∀ (a : Nat) (ok lf : Bool) (ps : List Pr) (ks : List Int) (zl : List Tr) (cs : List Int) (bs : List Ms), a ≤ b.length → ps.length ≤ 5 → ks.length ≤ 4 → Tr.szL zl ≤ 5 → cs.length ≤ 5 → bs.length ≤ 7 → RA Y a40 J31 [(0, .fro true 1 (b.map Bc)), (2, .elt 0 0 0), (5, .elt 1 0 0), (6, .elt 2 0 0), (7, .row 3)] [(0, .box [.b false, .emp, .emp, .emp, .emp]), (1, .box (Cb b a ok)), (2, .box [.b lf, .row 4, .row 6, .row 5, .row 7]), (3, .row true 1 0 (ks.map Ic)), (4, .row true 2 0 (ps.map Pr.c)), (5, .row false 5 0 (zl.map Tr.e)), (6, .row true 1 0 (cs.map Ic)), (7, .row true 3 0 (bs.map Ms.c))] 8 GNQ := by
          intro a ok lf ps ks zl cs bs ha hps hks hzl hcs hbs
          rw [eJ31]
          refine .seq <| .reg <| .aE rfl rfl rfl rfl <| .mv rfl rfl <| ?_
          obtain ⟨pb, pok, hpb, R1⟩ := s_PutNode (.mk lf ps cs zl bs) ks (by simp only [Tr.sz]; omega) (by omega)
          refine .c rfl rfl rfl R1 (.c (.trF (.mk lf ps cs zl bs)) (.c (.fz (.rw (fun h => h))) .n)) rfl rfl rfl (by decide) <| .mv rfl rfl <| .ex rfl rfl rfl <| .ex rfl rfl rfl <| .bB (fun h1 => ?_) (fun h1 => ?_)
          · refine .mv rfl rfl <| .mv rfl rfl <| .nil <| .seq <| .seq <| .reg <| .mv rfl rfl <| .nc rfl rfl <| .fa rfl rfl <| .ldE rfl rfl rfl rfl <| .bB (fun h2 => ?_) (fun h2 => ?_)
            · refine .notT rfl rfl <| .mv rfl rfl <| .g rfl rfl <| .mv rfl rfl <| .g rfl rfl <| .nc rfl rfl <| .g rfl rfl <| .fa rfl rfl <| .g rfl rfl <| .ldE rfl rfl rfl rfl <| .g rfl rfl <| .mv rfl rfl <| .g rfl rfl <| .len rfl rfl rfl <| .g rfl rfl <| .neq rfl rfl rfl (fun h3 => ?_) (fun h3 => ?_)
              · refine .pickF rfl rfl rfl <| .mv rfl rfl <| .gs rfl rfl rfl <| .gs rfl rfl rfl <| .pickT rfl rfl rfl <| .mv rfl rfl <| .gs rfl rfl rfl <| .gs rfl rfl rfl <| .gs rfl rfl rfl <| .gs rfl rfl rfl <| .gs rfl rfl rfl <| .pickT rfl rfl rfl <| .nil <| .condT rfl <| .seq <| .reg <| .build (cs := [_, _, _, _, _]) rfl rfl rfl <| .row0 rfl rfl rfl <| .stA rfl rfl rfl rfl rfl rfl <| .mv rfl rfl <| .mv rfl rfl <| .nil <| .ret rfl ⟨[], false, rfl, rfl, by decide⟩ (.tup3 (.agg5 .junk .junk .junk .junk .junk) (by first | exact .rw (fun _ => rfl) | exact .ox rfl (fun _ => rfl)) .r) LeBs.refl
              · refine .pickF rfl rfl rfl <| .mv rfl rfl <| .g rfl rfl <| .mv rfl rfl <| .g rfl rfl <| .notT rfl rfl <| .pickF rfl rfl rfl <| .mv rfl rfl <| .g rfl rfl <| .mv rfl rfl <| .g rfl rfl <| .cvSt rfl rfl rfl <| .g rfl rfl <| .mv rfl rfl <| .g rfl rfl <| .cvSt rfl rfl rfl <| .g rfl rfl <| .sn rfl rfl rfl (fun h4 => ?_) (fun h4 => ?_)
                · refine .pickF rfl rfl rfl <| .nil <| .condT rfl <| .seq <| .reg <| .build (cs := [_, _, _, _, _]) rfl rfl rfl <| .row0 rfl rfl rfl <| .stA rfl rfl rfl rfl rfl rfl <| .mv rfl rfl <| .mv rfl rfl <| .nil <| .ret rfl ⟨[], false, rfl, rfl, by decide⟩ (.tup3 (.agg5 .junk .junk .junk .junk .junk) (by first | exact .rw (fun _ => rfl) | exact .ox rfl (fun _ => rfl)) .r) LeBs.refl
                · refine .pickF rfl rfl rfl <| .nil <| .condF rfl <| .skip <| .seq <| .reg <| .aE rfl rfl rfl rfl <| .mv rfl rfl <| .stA rfl rfl rfl rfl rfl rfl <| .mv rfl rfl <| .mv rfl rfl <| .nil <| .ret rfl ⟨ks, true, rfl, rfl, hks⟩ (.tup3 (.agg5 .junk .junk .junk .junk .junk) (by first | exact .rw (fun _ => rfl) | exact .ox rfl (fun _ => rfl)) .r) LeBs.refl
            · refine .notF rfl rfl <| .mv rfl rfl <| .gs rfl rfl rfl <| .gs rfl rfl rfl <| .gs rfl rfl rfl <| .gs rfl rfl rfl <| .gs rfl rfl rfl <| .gs rfl rfl rfl <| .gs rfl rfl rfl <| .pickT rfl rfl rfl <| .mv rfl rfl <| .gs rfl rfl rfl <| .gs rfl rfl rfl <| .pickT rfl rfl rfl <| .mv rfl rfl <| .gs rfl rfl rfl <| .gs rfl rfl rfl <| .gs rfl rfl rfl <| .gs rfl rfl rfl <| .gs rfl rfl rfl <| .pickT rfl rfl rfl <| .nil <| .condT rfl <| .seq <| .reg <| .build (cs := [_, _, _, _, _]) rfl rfl rfl <| .row0 rfl rfl rfl <| .stA rfl rfl rfl rfl rfl rfl <| .mv rfl rfl <| .mv rfl rfl <| .nil <| .ret rfl ⟨[], false, rfl, rfl, by decide⟩ (.tup3 (.agg5 .junk .junk .junk .junk .junk) (by first | exact .rw (fun _ => rfl) | exact .ox rfl (fun _ => rfl)) .r) LeBs.refl
          · refine .mv rfl rfl <| .mv rfl rfl <| .nil <| .seq <| .seq <| .reg <| .mv rfl rfl <| .nc rfl rfl <| .fa rfl rfl <| .ldE rfl rfl rfl rfl <| .bB (fun h5 => ?_) (fun h5 => ?_)
            · refine .notT rfl rfl <| .mv rfl rfl <| .g rfl rfl <| .mv rfl rfl <| .g rfl rfl <| .nc rfl rfl <| .g rfl rfl <| .fa rfl rfl <| .g rfl rfl <| .ldE rfl rfl rfl rfl <| .g rfl rfl <| .mv rfl rfl <| .g rfl rfl <| .len rfl rfl rfl <| .g rfl rfl <| .neq rfl rfl rfl (fun h6 => ?_) (fun h6 => ?_)
              · refine .pickF rfl rfl rfl <| .mv rfl rfl <| .gs rfl rfl rfl <| .gs rfl rfl rfl <| .pickT rfl rfl rfl <| .mv rfl rfl <| .gs rfl rfl rfl <| .gs rfl rfl rfl <| .gs rfl rfl rfl <| .gs rfl rfl rfl <| .gs rfl rfl rfl <| .pickT rfl rfl rfl <| .nil <| .condT rfl <| .seq <| .reg <| .build (cs := [_, _, _, _, _]) rfl rfl rfl <| .row0 rfl rfl rfl <| .stA rfl rfl rfl rfl rfl rfl <| .mv rfl rfl <| .mv rfl rfl <| .nil <| .ret rfl ⟨[], false, rfl, rfl, by decide⟩ (.tup3 (.agg5 .junk .junk .junk .junk .junk) (by first | exact .rw (fun _ => rfl) | exact .ox rfl (fun _ => rfl)) .r) LeBs.refl
              · refine .pickF rfl rfl rfl <| .mv rfl rfl <| .g rfl rfl <| .mv rfl rfl <| .g rfl rfl <| .notF rfl rfl <| .pickF rfl rfl rfl <| .mv rfl rfl <| .gs rfl rfl rfl <| .gs rfl rfl rfl <| .gs rfl rfl rfl <| .gs rfl rfl rfl <| .gs rfl rfl rfl <| .pickT rfl rfl rfl <| .nil <| .condT rfl <| .seq <| .reg <| .build (cs := [_, _, _, _, _]) rfl rfl rfl <| .row0 rfl rfl rfl <| .stA rfl rfl rfl rfl rfl rfl <| .mv rfl rfl <| .mv rfl rfl <| .nil <| .ret rfl ⟨[], false, rfl, rfl, by decide⟩ (.tup3 (.agg5 .junk .junk .junk .junk .junk) (by first | exact .rw (fun _ => rfl) | exact .ox rfl (fun _ => rfl)) .r) LeBs.refl
            · refine .notF rfl rfl <| .mv rfl rfl <| .gs rfl rfl rfl <| .gs rfl rfl rfl <| .gs rfl rfl rfl <| .gs rfl rfl rfl <| .gs rfl rfl rfl <| .gs rfl rfl rfl <| .gs rfl rfl rfl <| .pickT rfl rfl rfl <| .mv rfl rfl <| .gs rfl rfl rfl <| .gs rfl rfl rfl <| .pickT rfl rfl rfl <| .mv rfl rfl <| .gs rfl rfl rfl <| .gs rfl rfl rfl <| .gs rfl rfl rfl <| .gs rfl rfl rfl <| .gs rfl rfl rfl <| .pickT rfl rfl rfl <| .nil <| .condT rfl <| .seq <| .reg <| .build (cs := [_, _, _, _, _]) rfl rfl rfl <| .row0 rfl rfl rfl <| .stA rfl rfl rfl rfl rfl rfl <| .mv rfl rfl <| .mv rfl rfl <| .nil <| .ret rfl ⟨[], false, rfl, rfl, by decide⟩ (.tup3 (.agg5 .junk .junk .junk .junk .junk) (by first | exact .rw (fun _ => rfl) | exact .ox rfl (fun _ => rfl)) .r) LeBs.refl
        refine .seq <| .reg <| .fa rfl rfl <| .ldE rfl rfl rfl rfl <| .bB (fun h7 => ?_) (fun h7 => ?_)
        · refine .notT rfl rfl <| .mv rfl rfl <| .gs rfl rfl rfl <| .gs rfl rfl rfl <| .gs rfl rfl rfl <| .gs rfl rfl rfl <| .pickF rfl rfl rfl <| .nil <| .condF rfl <| .skip <| ?_
          refine RA.freshT 6 2 1 nJ31 rfl rfl rfl (RA.freshT 6 3 5 nJ31 rfl rfl rfl (RA.freshT 6 4 3 nJ31 rfl rfl rfl ?_))
          exact RA.ws [_, _, _, _, _, _, _, _] (K31 a ok lf ps [] [] [] [] ha (by omega) (by decide) (by decide) (by decide) (by decide)) nJ31 (by exact .k rfl rfl <| .l rfl rfl rfl <| .l rfl rfl rfl <| .l rfl rfl rfl <| .r rfl rfl .nil) (by exact .b rfl rfl (.same rfl) <| .b rfl rfl (.same rfl) <| .b rfl rfl (.box5 (.v .refl rfl) (.row rfl) (.row rfl) (.row rfl) (.row rfl)) <| .x rfl rfl rfl (fun _ => rfl) <| .r rfl rfl (fun _ => rfl) <| .x rfl rfl rfl (fun h => by cases h) <| .x rfl rfl rfl (fun _ => rfl) <| .x rfl rfl rfl (fun _ => rfl) .nil)
        · refine .notF rfl rfl <| .mv rfl rfl <| .g rfl rfl <| .mv rfl rfl <| .g rfl rfl <| .nc rfl rfl <| .g rfl rfl <| .fa rfl rfl <| .g rfl rfl <| .ldE rfl rfl rfl rfl <| .bB (fun h8 => ?_) (fun h8 => ?_)
          · have hn4 := hn h8
            refine .pickT rfl rfl rfl <| .nil <| .condT rfl <| .seq <| .seq <| .reg <| .mv rfl rfl <| .nil <| .block <| ?_
            refine RA.loopI fun T0 hT0 nT0 eT0 => ?_
            have L0 : ∀ (f i a : Nat) (ok : Bool) (ks : List Int) (zl : List Tr), (i : Int) + f = n → a ≤ b.length → ks.length = i → Tr.szL zl ≤ i → RA Y a40 T0 [(0, .fro true 1 (b.map Bc)), (2, .elt 0 0 0), (5, .elt 1 0 0), (6, .elt 2 0 0), (7, .row 3), (8, i64 n), (11, i64 i)] [(0, .box [.b false, .emp, .emp, .emp, .emp]), (1, .box (Cb b a ok)), (2, .box [.b lf, .row 4, .emp, .row 5, .emp]), (3, .row true 1 0 (ks.map Ic)), (4, .row true 2 0 (ps.map Pr.c)), (5, .row false 5 0 (zl.map Tr.e))] 6 GNQ := by
              intro f
              induction f using Nat.strongRecOn with
              | _ f IH =>
                intro i a ok ks zl hf ha hk hz
                rw [eT0]
                refine .seq <| .seq <| .reg <| .mv rfl rfl <| .mv rfl rfl <| .lss rfl rfl rfl (fun h9 => ?_) (fun h9 => ?_)
                · have hzll := Tr.szL_len zl
                  refine .nil <| .condT rfl <| .skip <| .seq <| .block <| .seq <| .reg <| .mv rfl rfl <| .mv rfl rfl <| ?_
                  obtain ⟨x1, a1, ok1, ha1, R1⟩ := s_l5Num b a ok h ha
                  refine .cPz rfl rfl rfl R1 .refl rfl rfl rfl (by decide) <| .row1P rfl rfl rfl rfl rfl rfl rfl rfl <| .ap rfl rfl rfl rfl rfl (by simp; omega) (by decide) <| .mv rfl rfl <| .nil <| .reg <| .fa rfl rfl <| .ldE rfl rfl rfl rfl <| .build (cs := [_, _, _, _, _]) rfl rfl rfl <| .row1P rfl rfl rfl rfl rfl rfl rfl rfl <| .ap rfl rfl rfl rfl rfl (by simp; omega) (by decide) <| .fa rfl rfl <| .st1 rfl rfl rfl rfl rfl (of_decide_eq_true rfl) <| .nil <| .inBlock <| .reg <| .mv rfl rfl <| .add rfl rfl rfl (by omega) <| .mv rfl rfl <| .nil <| hT0 <| ?_
                  exact RA.ws [_, _, _, _, _, _] (IH (f - 1) (by omega) (i + 1) a1 ok1 (ks ++ [x1]) (zl ++ [.mk false [] [] [] []]) (by omega) ha1 (by simp; omega) (by rw [Tr.szL_app]; simp only [Tr.szL, Tr.sz, List.length_nil]; omega)) nT0 (by exact .k rfl rfl <| .l rfl rfl rfl <| .l rfl rfl rfl <| .l rfl rfl rfl <| .r rfl rfl <| .k rfl rfl <| .i rfl (by omega) .nil) (by exact .b rfl rfl (.same rfl) <| .b rfl rfl (.same rfl) <| .b rfl rfl (.box5 (.v .refl rfl) (.row rfl) (.v .refl rfl) (.row rfl) (.v .refl rfl)) <| .r rfl rfl (fun _ => rfl) <| .r rfl rfl (fun _ => rfl) <| .s rfl rfl (fun h => by cases h) rfl (leTr rfl .emp .emp .emp .emp) .nil)
                · refine .nil <| .condF rfl <| .exit rfl <| .seq <| .seq <| .reg <| .mv rfl rfl <| .nil <| .block <| ?_
                  refine RA.loopI fun T1 hT1 nT1 eT1 => ?_
                  have L1 : ∀ (f i a : Nat) (ok : Bool) (cs : List Int), i + f = 5 → a ≤ b.length → cs.length ≤ i → RA Y a40 T1 [(0, .fro true 1 (b.map Bc)), (2, .elt 0 0 0), (5, .elt 1 0 0), (6, .elt 2 0 0), (7, .row 3), (8, i64 n), (12, i64 i)] [(0, .box [.b false, .emp, .emp, .emp, .emp]), (1, .box (Cb b a ok)), (2, .box [.b lf, .row 4, .row 6, .row 5, .emp]), (3, .row true 1 0 (ks.map Ic)), (4, .row true 2 0 (ps.map Pr.c)), (5, .row false 5 0 (zl.map Tr.e)), (6, .row true 1 0 (cs.map Ic))] 7 GNQ := by
                    intro f
                    induction f using Nat.strongRecOn with
                    | _ f IH =>
                      intro i a ok cs hf ha hcl
                      rw [eT1]
                      refine .seq <| .seq <| .reg <| .mv rfl rfl <| .mv rfl rfl <| .lss rfl rfl rfl (fun h10 => ?_) (fun h10 => ?_)
                      · refine .nil <| .condT rfl <| .skip <| .seq <| .block <| .regD <| .fa rfl rfl <| .ldE rfl rfl rfl rfl <| .mv rfl rfl <| ?_
                        obtain ⟨x1, a1, ok1, ha1, R1⟩ := s_l5Num b a ok h ha
                        refine .cPz rfl rfl rfl R1 .refl rfl rfl rfl (by decide) <| .row1P rfl rfl rfl rfl rfl rfl rfl rfl <| .ap rfl rfl rfl rfl rfl (by simp; omega) (by decide) <| .fa rfl rfl <| .st1 rfl rfl rfl rfl rfl (of_decide_eq_true rfl) <| .nil (by kernel_rfl) <| .inBlock <| .reg <| .mv rfl rfl <| .add rfl rfl rfl (by omega) <| .mv rfl rfl <| .nil <| hT1 <| ?_
                        exact RA.ws [_, _, _, _, _, _, _] (IH (f - 1) (by omega) (i + 1) a1 ok1 (cs ++ [x1]) (by omega) ha1 (by simp; omega)) nT1 (by exact .k rfl rfl <| .l rfl rfl rfl <| .l rfl rfl rfl <| .l rfl rfl rfl <| .r rfl rfl <| .k rfl rfl <| .i rfl (by omega) .nil) (by exact .b rfl rfl (.same rfl) <| .b rfl rfl (.same rfl) <| .b rfl rfl (.box5 (.v .refl rfl) (.row rfl) (.row rfl) (.row rfl) (.v .refl rfl)) <| .r rfl rfl (fun _ => rfl) <| .r rfl rfl (fun _ => rfl) <| .r rfl rfl (fun h => by cases h) <| .r rfl rfl (fun _ => rfl) .nil)
                      · refine .nil <| .condF rfl <| .exit rfl <| .seq <| .reg <| .mv rfl rfl <| ?_
                        obtain ⟨x1, a1, ok1, ha1, R1⟩ := s_l5Num b a ok h ha
                        refine .cPz rfl rfl rfl R1 .refl rfl rfl rfl (by decide) <| .mv rfl rfl <| .nil <| ?_
                        refine RA.seqJ rfl fun J24 nJ24 eJ24 => ?_
                        have K24 : ∀ (a : Nat) (ok : Bool) (m : Int), a ≤ b.length → (ok = true → 0 ≤ m ∧ m ≤ 6) → RA Y a40 J24 [(0, .fro true 1 (b.map Bc)), (2, .elt 0 0 0), (5, .elt 1 0 0), (6, .elt 2 0 0), (7, .row 3), (13, i64 m)] [(0, .box [.b false, .emp, .emp, .emp, .emp]), (1, .box (Cb b a ok)), (2, .box [.b lf, .row 4, .row 6, .row 5, .emp]), (3, .row true 1 0 (ks.map Ic)), (4, .row true 2 0 (ps.map Pr.c)), (5, .row false 5 0 (zl.map Tr.e)), (6, .row true 1 0 (cs.map Ic))] 7 GNQ := by
                          intro a ok m ha hm
                          rw [eJ24]
                          refine .seq <| .reg <| .mv rfl rfl <| .nil <| .block <| ?_
                          refine RA.loopI fun T2 hT2 nT2 eT2 => ?_
                          have L2 : ∀ (f i a : Nat) (ok : Bool) (bs : List Ms), i + f = 7 → a ≤ b.length → (ok = true → 0 ≤ m ∧ m ≤ 6) → bs.length ≤ i → RA Y a40 T2 [(0, .fro true 1 (b.map Bc)), (2, .elt 0 0 0), (5, .elt 1 0 0), (6, .elt 2 0 0), (7, .row 3), (13, i64 m), (14, i64 i)] [(0, .box [.b false, .emp, .emp, .emp, .emp]), (1, .box (Cb b a ok)), (2, .box [.b lf, .row 4, .row 6, .row 5, .row 7]), (3, .row true 1 0 (ks.map Ic)), (4, .row true 2 0 (ps.map Pr.c)), (5, .row false 5 0 (zl.map Tr.e)), (6, .row true 1 0 (cs.map Ic)), (7, .row true 3 0 (bs.map Ms.c))] 8 GNQ := by
                            intro f
                            induction f using Nat.strongRecOn with
                            | _ f IH =>
                              intro i a ok bs hf ha hm hbl
                              rw [eT2]
                              refine .seq <| .seq <| .reg <| .mv rfl rfl <| .mv rfl rfl <| .lss rfl rfl rfl (fun h11 => ?_) (fun h11 => ?_)
                              · refine .mv rfl rfl <| .g rfl rfl <| .mv rfl rfl <| .g rfl rfl <| .nc rfl rfl <| .g rfl rfl <| .fa rfl rfl <| .g rfl rfl <| .ldE rfl rfl rfl rfl <| .bB (fun h12 => ?_) (fun h12 => ?_)
                                · have hm6 := hm h12
                                  refine .pickT rfl rfl rfl <| .nil <| .condT rfl <| .skip <| .seq <| .block <| .seq <| .reg <| .mv rfl rfl <| ?_
                                  obtain ⟨x1, a1, ok1, ha1, R1⟩ := s_l5Num b a ok h ha
                                  refine .cPz rfl rfl rfl R1 .refl rfl rfl rfl (by decide) <| .build (cs := [_, _, _]) rfl rfl rfl <| .new rfl <| .stA rfl rfl rfl rfl rfl rfl <| .nil <| .seq <| .reg <| .mv rfl rfl <| ?_
                                  obtain ⟨x2, a2, ok2, ha2, R2⟩ := s_l5Num b a1 ok1 h ha1
                                  refine .cPz rfl rfl rfl R2 .refl rfl rfl rfl (by decide) <| .fa rfl rfl <| .st1 rfl rfl rfl rfl rfl (of_decide_eq_true rfl) <| .nil <| .seq <| .reg <| .mv rfl rfl <| ?_
                                  obtain ⟨x3, a3, ok3, ha3, R3⟩ := s_l5Num b a2 ok2 h ha2
                                  refine .cPz rfl rfl rfl R3 .refl rfl rfl rfl (by decide) <| .fa rfl rfl <| .st1 rfl rfl rfl rfl rfl (of_decide_eq_true rfl) <| .nil <| .reg <| .fa rfl rfl <| .ldE rfl rfl rfl rfl <| .aE rfl rfl rfl rfl <| .row1P rfl rfl rfl rfl rfl rfl rfl rfl <| .ap rfl rfl rfl rfl rfl (by simp; omega) (by decide) <| .fa rfl rfl <| .st1 rfl rfl rfl rfl rfl (of_decide_eq_true rfl) <| .nil <| .inBlock <| .reg <| .mv rfl rfl <| .add rfl rfl rfl (by omega) <| .mv rfl rfl <| .nil <| hT2 <| ?_
                                  exact RA.ws [_, _, _, _, _, _, _, _] (IH (f - 1) (by omega) (i + 1) a3 ok3 (bs ++ [⟨x1, x2, x3⟩]) (by omega) ha3 (fun _ => hm h12) (by simp; omega)) nT2 (by exact .k rfl rfl <| .l rfl rfl rfl <| .l rfl rfl rfl <| .l rfl rfl rfl <| .r rfl rfl <| .k rfl rfl <| .i rfl (by omega) .nil) (by exact .b rfl rfl (.same rfl) <| .b rfl rfl (.same rfl) <| .b rfl rfl (.box5 (.v .refl rfl) (.row rfl) (.row rfl) (.row rfl) (.row rfl)) <| .r rfl rfl (fun _ => rfl) <| .r rfl rfl (fun _ => rfl) <| .r rfl rfl (fun h => by cases h) <| .r rfl rfl (fun _ => rfl) <| .x rfl rfl (by simp [Ms.c]) (fun _ => rfl) .nil)
                                · refine .pickT rfl rfl rfl <| .nil <| .condF rfl <| .exit rfl <| ?_
                                  exact RA.ws [_, _, _, _, _, _, _, _] (K31 a ok lf ps ks zl cs bs ha (by omega) (by omega) (by omega) (by omega) (by omega)) nJ31 (by exact .k rfl rfl <| .l rfl rfl rfl <| .l rfl rfl rfl <| .l rfl rfl rfl <| .r rfl rfl .nil) (by exact .b rfl rfl (.same rfl) <| .b rfl rfl (.same rfl) <| .b rfl rfl (.box5 (.v .refl rfl) (.row rfl) (.row rfl) (.row rfl) (.row rfl)) <| .r rfl rfl (fun _ => rfl) <| .r rfl rfl (fun _ => rfl) <| .r rfl rfl (fun h => by cases h) <| .r rfl rfl (fun _ => rfl) <| .r rfl rfl (fun _ => rfl) .nil)
                              · refine .mv rfl rfl <| .gs rfl rfl rfl <| .gs rfl rfl rfl <| .gs rfl rfl rfl <| .gs rfl rfl rfl <| .pickF rfl rfl rfl <| .nil <| .condF rfl <| .exit rfl <| ?_
                                exact RA.ws [_, _, _, _, _, _, _, _] (K31 a ok lf ps ks zl cs bs ha (by omega) (by omega) (by omega) (by omega) (by omega)) nJ31 (by exact .k rfl rfl <| .l rfl rfl rfl <| .l rfl rfl rfl <| .l rfl rfl rfl <| .r rfl rfl .nil) (by exact .b rfl rfl (.same rfl) <| .b rfl rfl (.same rfl) <| .b rfl rfl (.box5 (.v .refl rfl) (.row rfl) (.row rfl) (.row rfl) (.row rfl)) <| .r rfl rfl (fun _ => rfl) <| .r rfl rfl (fun _ => rfl) <| .r rfl rfl (fun h => by cases h) <| .r rfl rfl (fun _ => rfl) <| .r rfl rfl (fun _ => rfl) .nil)
                          refine RA.freshT 6 4 3 nT2 rfl rfl rfl ?_
                          exact RA.ws [_, _, _, _, _, _, _, _] (L2 7 0 a ok [] rfl ha hm (Nat.le_refl _)) nT2 (by exact .k rfl rfl <| .l rfl rfl rfl <| .l rfl rfl rfl <| .l rfl rfl rfl <| .r rfl rfl <| .k rfl rfl <| .k rfl rfl .nil) (by exact .b rfl rfl (.same rfl) <| .b rfl rfl (.same rfl) <| .b rfl rfl (.box5 (.v .refl rfl) (.row rfl) (.row rfl) (.row rfl) (.row rfl)) <| .r rfl rfl (fun _ => rfl) <| .r rfl rfl (fun _ => rfl) <| .r rfl rfl (fun h => by cases h) <| .r rfl rfl (fun _ => rfl) <| .x rfl rfl rfl (fun _ => rfl) .nil)
                        refine .reg <| .mv rfl rfl <| .mv rfl rfl <| .nc rfl rfl <| .fa rfl rfl <| .ldE rfl rfl rfl rfl <| .bB (fun h13 => ?_) (fun h13 => ?_)
                        · refine .mv rfl rfl <| .g rfl rfl <| .mv rfl rfl <| .g rfl rfl <| .c rfl rfl rfl (s_l1In x1 0 6) .refl rfl rfl rfl (by decide) <| .pickT rfl rfl rfl <| .nc rfl rfl <| .fa rfl rfl <| .st1 rfl rfl rfl rfl rfl (of_decide_eq_true rfl) <| .nil <| ?_
                          exact RA.ws [_, _, _, _, _, _, _] (K24 a1 (decide (0 ≤ x1 ∧ x1 ≤ 6)) x1 ha1 (fun q => of_decide_eq_true q)) nJ24 (by exact .k rfl rfl <| .l rfl rfl rfl <| .l rfl rfl rfl <| .l rfl rfl rfl <| .r rfl rfl <| .k rfl rfl .nil) (by exact .b rfl rfl (.same rfl) <| .b rfl rfl (.same rfl) <| .b rfl rfl (.box5 (.v .refl rfl) (.row rfl) (.row rfl) (.row rfl) (.v .refl rfl)) <| .r rfl rfl (fun _ => rfl) <| .r rfl rfl (fun _ => rfl) <| .r rfl rfl (fun h => by cases h) <| .r rfl rfl (fun _ => rfl) .nil)
                        · refine .mv rfl rfl <| .gs rfl rfl rfl <| .gs rfl rfl rfl <| .pickF rfl rfl rfl <| .nc rfl rfl <| .fa rfl rfl <| .st1 rfl rfl rfl rfl rfl (of_decide_eq_true rfl) <| .nil <| ?_
                          exact RA.ws [_, _, _, _, _, _, _] (K24 a1 false x1 ha1 (fun q => by cases q)) nJ24 (by exact .k rfl rfl <| .l rfl rfl rfl <| .l rfl rfl rfl <| .l rfl rfl rfl <| .r rfl rfl <| .k rfl rfl .nil) (by exact .b rfl rfl (.same rfl) <| .b rfl rfl (.same rfl) <| .b rfl rfl (.box5 (.v .refl rfl) (.row rfl) (.row rfl) (.row rfl) (.v .refl rfl)) <| .r rfl rfl (fun _ => rfl) <| .r rfl rfl (fun _ => rfl) <| .r rfl rfl (fun h => by cases h) <| .r rfl rfl (fun _ => rfl) .nil)
                  refine RA.freshT 6 2 1 nT1 rfl rfl rfl ?_
                  exact RA.ws [_, _, _, _, _, _, _] (L1 4 1 a ok [] rfl ha (by decide)) nT1 (by exact .k rfl rfl <| .l rfl rfl rfl <| .l rfl rfl rfl <| .l rfl rfl rfl <| .r rfl rfl <| .k rfl rfl <| .k rfl rfl .nil) (by exact .b rfl rfl (.same rfl) <| .b rfl rfl (.same rfl) <| .b rfl rfl (.box5 (.v .refl rfl) (.row rfl) (.row rfl) (.row rfl) (.v .refl rfl)) <| .r rfl rfl (fun _ => rfl) <| .r rfl rfl (fun _ => rfl) <| .r rfl rfl (fun h => by cases h) <| .x rfl rfl rfl (fun _ => rfl) .nil)
            refine RA.freshT 6 3 5 nT0 rfl rfl rfl ?_
            exact RA.ws [_, _, _, _, _, _] (L0 n.toNat 0 a ok [] [] (by omega) ha rfl (Nat.le_refl _)) nT0 (by exact .k rfl rfl <| .l rfl rfl rfl <| .l rfl rfl rfl <| .l rfl rfl rfl <| .r rfl rfl <| .k rfl rfl <| .k rfl rfl .nil) (by exact .b rfl rfl (.same rfl) <| .b rfl rfl (.same rfl) <| .b rfl rfl (.box5 (.v .refl rfl) (.row rfl) (.v .refl rfl) (.row rfl) (.v .refl rfl)) <| .x rfl rfl rfl (fun _ => rfl) <| .r rfl rfl (fun _ => rfl) <| .x rfl rfl rfl (fun h => by cases h) .nil)
          · refine .pickT rfl rfl rfl <| .nil <| .condF rfl <| .skip <| ?_
            refine RA.freshT 6 2 1 nJ31 rfl rfl rfl (RA.freshT 6 3 5 nJ31 rfl rfl rfl (RA.freshT 6 4 3 nJ31 rfl rfl rfl ?_))
            exact RA.ws [_, _, _, _, _, _, _, _] (K31 a ok lf ps [] [] [] [] ha (by omega) (by decide) (by decide) (by decide) (by decide)) nJ31 (by exact .k rfl rfl <| .l rfl rfl rfl <| .l rfl rfl rfl <| .l rfl rfl rfl <| .r rfl rfl .nil) (by exact .b rfl rfl (.same rfl) <| .b rfl rfl (.same rfl) <| .b rfl rfl (.box5 (.v .refl rfl) (.row rfl) (.row rfl) (.row rfl) (.row rfl)) <| .x rfl rfl rfl (fun _ => rfl) <| .r rfl rfl (fun _ => rfl) <| .x rfl rfl rfl (fun h => by cases h) <| .x rfl rfl rfl (fun _ => rfl) <| .x rfl rfl rfl (fun _ => rfl) .nil)
      refine .seq <| .reg <| .mv rfl rfl <| .nil <| .block <| ?_
      refine RA.loopI fun T3 hT3 nT3 eT3 => ?_
      have L3 : ∀ (f i a : Nat) (ok : Bool) (ps : List Pr), i + f = 5 → a ≤ b.length → (ok = true → 0 ≤ n ∧ n ≤ 4) → ps.length ≤ i → RA Y a40 T3 [(0, .fro true 1 (b.map Bc)), (2, .elt 0 0 0), (5, .elt 1 0 0), (6, .elt 2 0 0), (7, .row 3), (8, i64 n), (9, i64 i)] [(0, .box [.b false, .emp, .emp, .emp, .emp]), (1, .box (Cb b a ok)), (2, .box [.b lf, .row 4, .emp, .emp, .emp]), (3, .row true 1 0 []), (4, .row true 2 0 (ps.map Pr.c))] 5 GNQ := by
        intro f
        induction f using Nat.strongRecOn with
        | _ f IH =>
          intro i a ok ps hf ha hn hp
          rw [eT3]
          refine .seq <| .seq <| .reg <| .mv rfl rfl <| .mv rfl rfl <| .lss rfl rfl rfl (fun h14 => ?_) (fun h14 => ?_)
          · refine .mv rfl rfl <| .g rfl rfl <| .mv rfl rfl <| .g rfl rfl <| .nc rfl rfl <| .g rfl rfl <| .fa rfl rfl <| .g rfl rfl <| .ldE rfl rfl rfl rfl <| .bB (fun h15 => ?_) (fun h15 => ?_)
            · have hn4 := hn h15
              refine .pickT rfl rfl rfl <| .mv rfl rfl <| .g rfl rfl <| .fa rfl rfl <| .g rfl rfl <| .ldE rfl rfl rfl rfl <| .bB (fun h16 => ?_) (fun h16 => ?_)
              · refine .pickT rfl rfl rfl <| .nil <| .condT rfl <| .skip <| .seq <| .block <| .seq <| .reg <| .mv rfl rfl <| ?_
                obtain ⟨x1, a1, ok1, ha1, R1⟩ := s_l5Num b a ok h ha
                refine .cPz rfl rfl rfl R1 .refl rfl rfl rfl (by decide) <| .build (cs := [_, _]) rfl rfl rfl <| .new rfl <| .stA rfl rfl rfl rfl rfl rfl <| .nil <| .seq <| .reg <| .mv rfl rfl <| ?_
                obtain ⟨x2, a2, ok2, ha2, R2⟩ := s_l5Num b a1 ok1 h ha1
                refine .cPz rfl rfl rfl R2 .refl rfl rfl rfl (by decide) <| .fa rfl rfl <| .st1 rfl rfl rfl rfl rfl (of_decide_eq_true rfl) <| .nil <| .reg <| .fa rfl rfl <| .ldE rfl rfl rfl rfl <| .aE rfl rfl rfl rfl <| .row1P rfl rfl rfl rfl rfl rfl rfl rfl <| .ap rfl rfl rfl rfl rfl (by simp; omega) (by decide) <| .fa rfl rfl <| .st1 rfl rfl rfl rfl rfl (of_decide_eq_true rfl) <| .nil <| .inBlock <| .reg <| .mv rfl rfl <| .add rfl rfl rfl (by omega) <| .mv rfl rfl <| .nil <| hT3 <| ?_
                exact RA.ws [_, _, _, _, _] (IH (f - 1) (by omega) (i + 1) a2 ok2 (ps ++ [⟨x1, x2⟩]) (by omega) ha2 (fun _ => hn h15) (by simp; omega)) nT3 (by exact .k rfl rfl <| .l rfl rfl rfl <| .l rfl rfl rfl <| .l rfl rfl rfl <| .r rfl rfl <| .k rfl rfl <| .i rfl (by omega) .nil) (by exact .b rfl rfl (.same rfl) <| .b rfl rfl (.same rfl) <| .b rfl rfl (.box5 (.v .refl rfl) (.row rfl) (.v .refl rfl) (.v .refl rfl) (.v .refl rfl)) <| .x rfl rfl rfl (fun _ => rfl) <| .x rfl rfl (by simp [Pr.c]) (fun _ => rfl) .nil)
              · refine .pickT rfl rfl rfl <| .nil <| .condF rfl <| .exit rfl <| ?_
                exact RA.ws [_, _, _, _, _] (K12 a ok ps ha hn (by omega)) nJ12 (by exact .k rfl rfl <| .l rfl rfl rfl <| .l rfl rfl rfl <| .l rfl rfl rfl <| .r rfl rfl <| .k rfl rfl .nil) (by exact .b rfl rfl (.same rfl) <| .b rfl rfl (.same rfl) <| .b rfl rfl (.box5 (.v .refl rfl) (.row rfl) (.v .refl rfl) (.v .refl rfl) (.v .refl rfl)) <| .x rfl rfl rfl (fun _ => rfl) <| .r rfl rfl (fun _ => rfl) .nil)
            · refine .pickT rfl rfl rfl <| .mv rfl rfl <| .gs rfl rfl rfl <| .gs rfl rfl rfl <| .pickF rfl rfl rfl <| .nil <| .condF rfl <| .exit rfl <| ?_
              exact RA.ws [_, _, _, _, _] (K12 a ok ps ha hn (by omega)) nJ12 (by exact .k rfl rfl <| .l rfl rfl rfl <| .l rfl rfl rfl <| .l rfl rfl rfl <| .r rfl rfl <| .k rfl rfl .nil) (by exact .b rfl rfl (.same rfl) <| .b rfl rfl (.same rfl) <| .b rfl rfl (.box5 (.v .refl rfl) (.row rfl) (.v .refl rfl) (.v .refl rfl) (.v .refl rfl)) <| .x rfl rfl rfl (fun _ => rfl) <| .r rfl rfl (fun _ => rfl) .nil)
          · refine .mv rfl rfl <| .gs rfl rfl rfl <| .gs rfl rfl rfl <| .gs rfl rfl rfl <| .gs rfl rfl rfl <| .pickF rfl rfl rfl <| .mv rfl rfl <| .gs rfl rfl rfl <| .gs rfl rfl rfl <| .pickF rfl rfl rfl <| .nil <| .condF rfl <| .exit rfl <| ?_
            exact RA.ws [_, _, _, _, _] (K12 a ok ps ha hn (by omega)) nJ12 (by exact .k rfl rfl <| .l rfl rfl rfl <| .l rfl rfl rfl <| .l rfl rfl rfl <| .r rfl rfl <| .k rfl rfl .nil) (by exact .b rfl rfl (.same rfl) <| .b rfl rfl (.same rfl) <| .b rfl rfl (.box5 (.v .refl rfl) (.row rfl) (.v .refl rfl) (.v .refl rfl) (.v .refl rfl)) <| .x rfl rfl rfl (fun _ => rfl) <| .r rfl rfl (fun _ => rfl) .nil)
      refine RA.freshT 6 1 2 nT3 rfl rfl rfl ?_
      exact RA.ws [_, _, _, _, _] (L3 5 0 a ok [] rfl ha hn (Nat.le_refl _)) nT3 (by exact .k rfl rfl <| .l rfl rfl rfl <| .l rfl rfl rfl <| .l rfl rfl rfl <| .r rfl rfl <| .k rfl rfl <| .k rfl rfl .nil) (by exact .b rfl rfl (.same rfl) <| .b rfl rfl (.same rfl) <| .b rfl rfl (.box5 (.v .refl rfl) (.row rfl) (.v .refl rfl) (.v .refl rfl) (.v .refl rfl)) <| .x rfl rfl rfl (fun _ => rfl) <| .x rfl rfl rfl (fun _ => rfl) .nil)
    refine .reg <| .mv rfl rfl <| .mv rfl rfl <| .nc rfl rfl <| .fa rfl rfl <| .ldE rfl rfl rfl rfl <| .bB (fun h17 => ?_) (fun h17 => ?_)
    · refine .mv rfl rfl <| .g rfl rfl <| .mv rfl rfl <| .g rfl rfl <| .c rfl rfl rfl (s_l1In x1 0 4) .refl rfl rfl rfl (by decide) <| .pickT rfl rfl rfl <| .nc rfl rfl <| .fa rfl rfl <| .st1 rfl rfl rfl rfl rfl (of_decide_eq_true rfl) <| .nil <| ?_
      exact RA.wq [_, _, _, _] (K6 a1 (decide (0 ≤ x1 ∧ x1 ≤ 4)) lf x1 ha1 (fun q => of_decide_eq_true q)) nJ6
    · refine .mv rfl rfl <| .gs rfl rfl rfl <| .gs rfl rfl rfl <| .pickF rfl rfl rfl <| .nc rfl rfl <| .fa rfl rfl <| .st1 rfl rfl rfl rfl rfl (of_decide_eq_true rfl) <| .nil <| ?_
      exact RA.wq [_, _, _, _] (K6 a1 false lf x1 ha1 (fun q => by cases q)) nJ6
  refine .reg <| .mv rfl rfl <| ?_
  obtain ⟨x1, a1, ok1, ha1, R1⟩ := s_l5Num b 0 true h (Nat.zero_le _)
  refine .cPz rfl rfl rfl R1 .refl rfl rfl rfl (by decide) <| .eql rfl rfl rfl (fun h18 => ?_) (fun h18 => ?_)
  · refine .build (cs := [_, _, _, _, _]) rfl rfl rfl <| .new rfl <| .stA rfl rfl rfl rfl rfl rfl <| .nil <| ?_
    exact RA.wq [_, _, _] (K3 a1 ok1 true ha1) nJ3
  · refine .build (cs := [_, _, _, _, _]) rfl rfl rfl <| .new rfl <| .stA rfl rfl rfl rfl rfl rfl <| .nil <| ?_
    exact RA.wq [_, _, _] (K3 a1 ok1 false ha1) nJ3
theorem s_GetNode (b : List UInt8) (h : b.length ≤ 1000000) : ∃ (ks : List Int) (ok : Bool), (ks.length ≤ 4) ∧ RF Y 40 [.fro true 1 (b.map Bc)] (.tup [.agg [.junk, .junk, .junk, .junk, .junk], .own true 1 0 (ks.map Ic), .b ok]) [] := by
  obtain ⟨r, o, ⟨ks, ok, rfl, rfl, hp⟩, hr⟩ := s_GetNode_x b h
  exact ⟨ks, ok, hp, hr⟩
end Go.Proofs.Ytjjocahgbmibeaa
