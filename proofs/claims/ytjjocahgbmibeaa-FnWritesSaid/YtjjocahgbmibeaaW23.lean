/- Walks: pages of a root, what is taken (the reference). -/
import Derived.Test.YtjjocahgbmibeaaW21
import Derived.Test.YtjjocahgbmibeaaW3
namespace Go.Proofs.Ytjjocahgbmibeaa
open Go.Eng
set_option maxRecDepth 4000
set_option linter.unusedSimpArgs false
set_option linter.unusedVariables false
def Dk.e (d : Dk) : List AV := [.fro true 1 (d.pages.map Sc), .fro true 2 (d.sups.map Su.c)]
def Dk.o (d : Dk) : AV := .agg [.own true 1 0 (d.pages.map Sc), .own true 2 0 (d.sups.map Su.c)]
def Dk.B (d : Dk) : Prop := d.pages.length ≤ 1000 ∧ d.sups.length ≤ 1000 ∧ ∀ p, p ∈ d.pages → p.size ≤ 1000000
instance {n mem} (d : Dk) : ImpC n d.e mem d.e mem n := ⟨[], rfl, rfl⟩
instance {n mem} (d : Dk) : ImpR n d.o mem (.agg [.row n, .row (n + 1)]) ((n + 1, .row true 2 0 (d.sups.map Su.c)) :: (n, .row true 1 0 (d.pages.map Sc)) :: mem) (n + 1 + 1) := by unfold Dk.o; infer_instance
instance {n mem} (d : Dk) : ImpV n d.o mem (.agg [.row n, .row (n + 1)]) ((n + 1, .row true 2 0 (d.sups.map Su.c)) :: (n, .row true 1 0 (d.pages.map Sc)) :: mem) (n + 1 + 1) := by unfold Dk.o; infer_instance
instance rw_rep (n : Nat) (b : Bool) : Rw (List.replicate n [.b b]) (List.replicate n b) Oc := ⟨by rw [List.map_replicate]; rfl⟩
instance rw_repS (n : Nat) (b : ByteArray) : Rw (List.replicate n [.s b]) (List.replicate n b) Sc := ⟨by rw [List.map_replicate]; rfl⟩
instance rw_repU (n : Nat) (a b : Int) : Rw (List.replicate n [.i .i64 a, .i .i64 b]) (List.replicate n (⟨a, b⟩ : Su)) Su.c := ⟨by rw [List.map_replicate]; rfl⟩
theorem _root_.Go.Eng.RO.cvB {Y : EngSys} {fn : AFn} {ops rest : List AOper} {i : Nat} {k : List AItem} {env : Env'} {mem : Mem'} {next d : Nat} {Q : Qst} {x : AOpd} {s : ByteArray} (h : ops = ⟨some d, .cvB x, none⟩ :: rest) (hx : x.lk env = some (.s s)) (h' : RO Y fn rest (i + 1) k ((d, .fro true 1 (s.data.toList.map Bc)) :: env) mem next Q) : RO Y fn ops i k env mem next Q :=
  RO.p h (by simp only [AOp.map, act, AOpd.lk_get hx]; rfl) h'
theorem _root_.Go.Eng.RO.mk {Y : EngSys} {fn : AFn} {ops rest : List AOper} {i : Nat} {k : List AItem} {env : Env'} {mem : Mem'} {next d : Nat} {Q : Qst} {x : AOpd} {es by_ n : Nat} {z : List AV} (h : ops = ⟨some d, .mk es by_ z x x, none⟩ :: rest) (hx : x.lk env = some (i64 (n : Int))) (hn : n ≤ 1000000) (hb : by_ ≤ 1000) (hz : z.length = es) (hl : z.all AV.lit = true) (h' : RO Y fn rest (i + 1) k ((d, .row (next + 16 * i)) :: env) ((next + 16 * i, .row true es n (List.replicate n z)) :: mem) next Q) : RO Y fn ops i k env mem next Q :=
  RO.u1 h (by
    have h1 : by_ * n ≤ 140737488355328 := Nat.le_trans (Nat.mul_le_mul hb hn) (by decide)
    have h1' : (by_ : Int) * (n : Int) ≤ 140737488355328 := by
      have := Int.ofNat_le.2 h1
      rw [Int.natCast_mul] at this
      exact this
    have h2 : (n : Int) ≤ 9223372036854775807 := by omega
    show act (next + 16 * i) (Eng.look mem) (.mk es by_ z (x.get (E env)) (x.get (E env))) = _
    rw [AOpd.lk_get hx]
    show (if _ then _ else _) = _
    rw [if_pos ⟨by omega, by omega, h1', h2, hz, hl⟩]
    simp) h'
theorem back_row {n : Nat} {m : Mem} {id es mc mc' : Nat} {fl fl' : Bool} {xs ys : List (List AV)} (hm : m id = some (.row fl' es mc' ys)) (hl : xs.length = ys.length) : backOne n m (.row id) (.own fl es mc xs) = some ([(id, .row fl es mc xs)], n) := by
  simp [backOne, hm, hl]
theorem backs_4 {n : Nat} {m : Mem} {md : List Bool} {vs : List AV} {a b c : AV} {id es mc mc' : Nat} {fl fl' : Bool} {xs ys : List (List AV)} (hmd : md = [false, false, false, true]) (has : vs = [a, b, c, .row id]) (hm : m id = some (.row fl' es mc' ys)) (hl : xs.length = ys.length) : backs n m md vs [.own fl es mc xs] = some ([(id, .row fl es mc xs)], n) := by
  subst hmd has
  simp [backs, back_row hm hl]
theorem s_l6Pages_x (d : Dk) (hd : d.B) (n : Nat) (hn : n ≤ 100) (ih : ∀ m, m < n → ∀ (root : Int) (seen : List Bool), seen.length = d.pages.length → ∃ (seen' : List Bool) (b : Bool), seen'.length = d.pages.length ∧ RF Y 176 [.agg d.e, i64 root, i64 m, .own true 1 0 (seen.map Oc)] (.b b) [.own true 1 0 (seen'.map Oc)]) (root : Int) (seen : List Bool) (hs : seen.length = d.pages.length) : RFx Y 176 [.agg d.e, i64 root, i64 n, .own true 1 0 (seen.map Oc)] (fun r o => ∃ (seen' : List Bool) (b : Bool), r = .b b ∧ o = [.own true 1 0 (seen'.map Oc)] ∧ seen'.length = d.pages.length) := by
  refine RFx.s4 rfl rfl rfl ?_
  have hd1 := hd.1
  refine .seq <| .reg <| .box rfl rfl rfl <| .mv rfl rfl <| .nil <| .seq <| .seq <| .reg <| .mv rfl rfl <| .eql rfl rfl rfl (fun h1 => ?_) (fun h1 => ?_)
  · refine .mv rfl rfl <| .gs rfl rfl rfl <| .gs rfl rfl rfl <| .gs rfl rfl rfl <| .gs rfl rfl rfl <| .gs rfl rfl rfl <| .gs rfl rfl rfl <| .gs rfl rfl rfl <| .pickT rfl rfl rfl <| .nil <| .condT rfl <| .seq <| .reg <| .mv rfl rfl <| .nil <| .ret rfl (by first | exact ⟨seen', false, rfl, rfl, hs'⟩ | exact ⟨seen, true, rfl, rfl, hs⟩ | exact ⟨seen, false, rfl, rfl, hs⟩) .r LeBs.refl
  · refine .mv rfl rfl <| .g rfl rfl <| .mv rfl rfl <| .g rfl rfl <| .fa rfl rfl <| .g rfl rfl <| .ldE rfl rfl rfl rfl <| .g rfl rfl <| .len rfl rfl rfl <| .g rfl rfl <| .sub rfl rfl rfl (by omega) <| .g rfl rfl <| .c rfl rfl rfl (s_l1In root 0 ((d.pages.length : Int) - 1)) .refl rfl rfl rfl (by decide) <| .bB (fun h2 => ?_) (fun h2 => ?_)
    · have h2 : 0 ≤ root ∧ root ≤ (d.pages.length : Int) - 1 := by simpa using h2
      obtain ⟨p, hp⟩ : ∃ p, d.pages[root.toNat]? = some p := ⟨_, getD_at (by omega)⟩
      obtain ⟨s0, hs0⟩ : ∃ s0, seen[root.toNat]? = some s0 := ⟨_, getD_at (by omega)⟩
      refine .g rfl rfl <| .notT rfl rfl <| .pickF rfl rfl rfl <| .nil <| .condF rfl <| .skip <| .seq <| .reg <| .mv rfl rfl <| .mv rfl rfl <| .iaRI rfl rfl rfl rfl (by omega) (by rw [List.length_map]; omega) <| .stR rfl rfl rfl rfl rfl rfl rfl (by rw [List.getElem?_map, hs0]; rfl) (of_decide_eq_true rfl) rfl <| .nil <| .seq <| .reg <| .fa rfl rfl <| .ldE rfl rfl rfl rfl <| .mv rfl rfl <| .iaI rfl rfl rfl (by omega) hp <| .ldF rfl rfl rfl <| .cvB rfl rfl <| ?_
      obtain ⟨ks, ok, hk, R1⟩ := s_GetNode p.data.toList (hd.2.2 p (List.mem_of_getElem? hp))
      refine .c rfl rfl rfl R1 .refl rfl rfl rfl (by decide) <| .mv rfl rfl <| .ex rfl rfl rfl <| .ex rfl rfl rfl <| .ex rfl rfl rfl <| .new rfl <| .stA rfl rfl rfl rfl rfl rfl <| .mv rfl rfl <| .mv rfl rfl <| .nil <| .seq <| .seq <| .reg <| .mv rfl rfl <| .nil <| .block <| ?_
      refine RA.loopI fun T0 hT0 nT0 eT0 => ?_
      have L0 : ∀ (f i : Nat) (seen : List Bool), i + f = ks.length → seen.length = d.pages.length → RA Y a176 T0 [(2, i64 n), (3, .row 0), (4, .elt 1 0 0), (10, .row 2), (11, .b ok), (12, i64 i)] [(0, .row true 1 0 (seen.map Oc)), (1, .box d.e), (2, .row true 1 0 (ks.map Ic))] 3 (fun r o => ∃ (seen' : List Bool) (b : Bool), r = .b b ∧ o = [.own true 1 0 (seen'.map Oc)] ∧ seen'.length = d.pages.length) := by
        intro f
        induction f using Nat.strongRecOn with
        | _ f IH =>
          intro i seen hf hs
          rw [eT0]
          refine .seq <| .seq <| .reg <| .mv rfl rfl <| .mv rfl rfl <| .len rfl rfl rfl <| .lss rfl rfl rfl (fun h3 => ?_) (fun h3 => ?_)
          · obtain ⟨x, hx⟩ : ∃ x, ks[i]? = some x := ⟨_, getD_at (by omega)⟩
            refine .mv rfl rfl <| .g rfl rfl <| .mv rfl rfl <| .pickT rfl rfl rfl <| .bB (fun h4 => ?_) (fun h4 => ?_)
            · refine .nil <| .condT rfl <| .skip <| .seq <| .block <| .seq <| .regD <| .aE rfl rfl rfl rfl <| .mv rfl rfl <| .mv rfl rfl <| .iaR rfl rfl rfl rfl (by first | assumption | (simp; omega)) <| .ldR rfl rfl rfl (by rw [List.getElem?_map, hx]; rfl) rfl <| .mv rfl rfl <| .sub rfl rfl rfl (by omega) <| .mv rfl rfl <| ?_
              obtain ⟨seen', b', hs', R2⟩ := ih (n - 1) (by omega) x seen hs
              refine .cM rfl rfl rfl R2 (.c .r (.c .r (.c (.ie (by omega)) (.c .r .n)))) (backs_4 rfl rfl rfl (by simp [hs', hs])) rfl (by decide) <| .bB (fun h5 => ?_) (fun h5 => ?_)
              · refine .notT rfl rfl <| .nil (by kernel_rfl) <| .condF rfl <| .skip <| .inBlock <| .reg <| .mv rfl rfl <| .add rfl rfl rfl (by omega) <| .mv rfl rfl <| .nil <| hT0 <| ?_
                exact RA.ws [_, _, _] (IH (f - 1) (by omega) (i + 1) seen' (by omega) hs') nT0 (by exact .k rfl rfl <| .r rfl rfl <| .l rfl rfl rfl <| .r rfl rfl <| .k rfl rfl <| .i rfl (by omega) .nil) (by exact .r rfl rfl (fun _ => rfl) <| .b rfl rfl (.same rfl) <| .r rfl rfl (fun _ => rfl) .nil)
              · refine .notF rfl rfl <| .nil (by kernel_rfl) <| .condT rfl <| .seq <| .reg <| .mv rfl rfl <| .nil <| .ret rfl (by first | exact ⟨seen', false, rfl, rfl, hs'⟩ | exact ⟨seen, true, rfl, rfl, hs⟩ | exact ⟨seen, false, rfl, rfl, hs⟩) .r LeBs.refl
            · refine .nil <| .condF rfl <| .exit rfl <| .seq <| .reg <| .mv rfl rfl <| .nil <| .ret rfl (by first | exact ⟨seen', false, rfl, rfl, hs'⟩ | exact ⟨seen, true, rfl, rfl, hs⟩ | exact ⟨seen, false, rfl, rfl, hs⟩) .r LeBs.refl
          · refine .mv rfl rfl <| .gs rfl rfl rfl <| .pickF rfl rfl rfl <| .nil <| .condF rfl <| .exit rfl <| .seq <| .reg <| .mv rfl rfl <| .nil <| .ret rfl (by first | exact ⟨seen', false, rfl, rfl, hs'⟩ | exact ⟨seen, true, rfl, rfl, hs⟩ | exact ⟨seen, false, rfl, rfl, hs⟩) .r LeBs.refl
      exact RA.ws [_, _, _] (L0 ks.length 0 (seen.set root.toNat true) (by omega) (by simp [hs])) nT0 (by exact .k rfl rfl <| .r rfl rfl <| .l rfl rfl rfl <| .r rfl rfl <| .k rfl rfl <| .k rfl rfl .nil) (by exact .x rfl rfl (by rw [List.map_set]; rfl) (fun _ => rfl) <| .b rfl rfl (.same rfl) <| .r rfl rfl (fun _ => rfl) .nil)
    · refine .g rfl rfl <| .notF rfl rfl <| .pickF rfl rfl rfl <| .nil <| .condT rfl <| .seq <| .reg <| .mv rfl rfl <| .nil <| .ret rfl (by first | exact ⟨seen', false, rfl, rfl, hs'⟩ | exact ⟨seen, true, rfl, rfl, hs⟩ | exact ⟨seen, false, rfl, rfl, hs⟩) .r LeBs.refl
theorem s_l6Pages (d : Dk) (hd : d.B) : ∀ (m : Nat), m ≤ 100 → ∀ (root : Int) (seen : List Bool), seen.length = d.pages.length → ∃ (seen' : List Bool) (b : Bool), seen'.length = d.pages.length ∧ RF Y 176 [.agg d.e, i64 root, i64 m, .own true 1 0 (seen.map Oc)] (.b b) [.own true 1 0 (seen'.map Oc)] := by
  intro m
  induction m using Nat.strongRecOn with
  | _ m IH =>
    intro hm root seen hs
    obtain ⟨r, o, ⟨seen', b, rfl, rfl, h⟩, hr⟩ := s_l6Pages_x d hd m hm (fun k hk root seen hs => IH k hk (by omega) root seen hs) root seen hs
    exact ⟨seen', b, h, hr⟩
end Go.Proofs.Ytjjocahgbmibeaa

namespace Go.Proofs.Ytjjocahgbmibeaa
open Go.Eng
set_option maxRecDepth 4000
set_option linter.unusedSimpArgs false
set_option linter.unusedVariables false
def Wr.ok (w : Wr) : Prop := -9223372036854775808 ≤ w.at_ ∧ w.at_ ≤ 9223372036854775807 ∧ w.text.size ≤ 1000000
def Lok (l : List Wr) : Prop := ∀ w, w ∈ l → w.ok
theorem Lok.nil : Lok [] := fun w h => by simp at h
theorem Lok.snoc {l : List Wr} {w : Wr} (h : Lok l) (hw : w.ok) : Lok (l ++ [w]) := fun x hx => by
  rcases List.mem_append.1 hx with q | q
  · exact h x q
  · obtain rfl := List.mem_singleton.1 q; exact hw
instance rwl_Wr (a : Int) (s : ByteArray) (b c : Int) : Rw [[.i .i64 a, .s s, .i .i64 b, .i .i64 c]] [(⟨a, s, ⟨b, c⟩⟩ : Wr)] Wr.c := ⟨rfl⟩
theorem size_mk (l : List UInt8) : (ByteArray.mk l.toArray).size = l.length := by simp [ByteArray.size]
theorem backs_3 {n : Nat} {m : Mem} {md : List Bool} {vs : List AV} {a c : AV} {id es mc mc' : Nat} {fl fl' : Bool} {xs ys : List (List AV)} (hmd : md = [false, true, true]) (has : vs = [a, .row id, c]) (hm : m id = some (.row fl' es mc' ys)) (hl : xs.length = ys.length) (hc : backOne n m c .junk = some ([], n)) : backs n m md vs [.own fl es mc xs, .junk] = some ([(id, .row fl es mc xs)], n) := by
  subst hmd has
  simp [backs, back_row hm hl, hc]
theorem s_l6Taken_x (d : Dk) (hd : d.B) : RFx Y 164 [.agg d.e] (fun r o => ∃ (out : List Bool), r = .own true 1 0 (out.map Oc) ∧ o = [] ∧ out.length = d.pages.length) := by
  refine RFx.s1 rfl rfl rfl ?_
  have hd1 := hd.1
  have hd2 := hd.2.1
  refine .seq <| .reg <| .box rfl rfl rfl <| .mv rfl rfl <| .nil <| .seq <| .reg <| .fa rfl rfl <| .ldE rfl rfl rfl rfl <| .len rfl rfl rfl <| .mk rfl rfl (by omega) (by decide) rfl rfl <| .mv rfl rfl <| .nil <| .seq <| .seq <| .reg <| .mv rfl rfl <| .nil <| .block <| ?_
  refine RA.loopI fun T0 hT0 nT0 eT0 => ?_
  have L0 : ∀ (post pre : List Su) (out : List Bool) (Q : Qst), d.sups = pre ++ post → out.length = d.pages.length → (∀ l : List Bool, l.length = d.pages.length → Q (.own true 1 0 (l.map Oc)) []) → RA Y a164 T0 [(1, .elt 0 0 0), (3, .row 1), (4, i64 pre.length)] [(0, .box d.e), (1, .row true 1 0 (out.map Oc))] 2 Q := by
    intro post
    induction post with
    | nil =>
      intro pre out Q hc ho hQ
      have hl : d.sups.length = pre.length := by simp [hc]
      rw [eT0]
      refine .seq <| .seq <| .reg <| .mv rfl rfl <| .fa rfl rfl <| .ldE rfl rfl rfl rfl <| .len rfl rfl rfl <| .lssF rfl rfl rfl (by omega) <| .nil <| .condF rfl <| .exit rfl <| .seq <| .reg <| .mv rfl rfl <| .mv rfl rfl <| .nil <| .ret rfl (hQ out ho) (by first | exact .rw (fun _ => rfl) | exact .ox rfl (fun _ => rfl)) LeBs.refl
    | cons a post ih =>
      intro pre out Q hc ho hQ
      have hl : d.sups.length = pre.length + post.length + 1 := by simp [hc]; omega
      have ha : d.sups[pre.length]? = some a := by simp [hc]
      rw [eT0]
      refine .seq <| .seq <| .reg <| .mv rfl rfl <| .fa rfl rfl <| .ldE rfl rfl rfl rfl <| .len rfl rfl rfl <| .lssT rfl rfl rfl (by omega) <| .nil <| .condT rfl <| .skip <| .seq <| .block <| .seq <| .seq <| .reg <| .fa rfl rfl <| .ldE rfl rfl rfl rfl <| .mv rfl rfl <| .ia rfl rfl rfl (by assumption) <| .faF rfl rfl <| .ldF rfl rfl rfl <| .leq rfl rfl rfl (fun h2 => ?_) (fun h2 => ?_)
      · refine .nil <| .condT rfl <| .exit rfl <| .reg <| .mv rfl rfl <| .add rfl rfl rfl (by omega) <| .mv rfl rfl <| .nil <| hT0 <| ?_
        exact RA.wr [_, _] (ih (pre ++ [a]) out _ (by simp [hc]) ho hQ) nT0 (hm := by exact .b rfl rfl (.same rfl) <| .r rfl rfl (fun _ => rfl) .nil)
      · refine .nil <| .condF rfl <| .skip <| .seq <| .reg <| .fa rfl rfl <| .ldE rfl rfl rfl rfl <| .len rfl rfl rfl <| .mk rfl rfl (by omega) (by decide) rfl rfl <| .mv rfl rfl <| .nil <| .seq <| .regD <| .aE rfl rfl rfl rfl <| .fa rfl rfl <| .ldE rfl rfl rfl rfl <| .mv rfl rfl <| .ia rfl rfl rfl (by assumption) <| .faF rfl rfl <| .ldF rfl rfl rfl <| .mv rfl rfl <| ?_
        obtain ⟨seen', b', hs', R2⟩ := s_l6Pages d hd 7 (by decide) a.root (List.replicate d.pages.length false) (by simp)
        refine .cM rfl rfl rfl R2 (.c .r (.c .r (.c (.ie rfl) (.c (.rw (fun h => h)) .n)))) (backs_4 rfl rfl rfl (by simp [hs'])) rfl (by decide) <| .bB (fun h3 => ?_) (fun h3 => ?_)
        · refine .nil (by kernel_rfl) <| .condT rfl <| .seq <| .reg <| .mv rfl rfl <| .nil <| .block <| ?_
          refine RA.loopI fun T1 hT1 nT1 eT1 => ?_
          have L1 : ∀ (f k : Nat) (out : List Bool), k + f = seen'.length → out.length = d.pages.length → RA Y a164 T1 [(1, .elt 0 0 0), (3, .row 1), (4, i64 pre.length), (5, .row 2), (6, i64 k)] [(0, .box d.e), (1, .row true 1 0 (out.map Oc)), (2, .row true 1 0 (seen'.map Oc))] 3 Q := by
            intro f
            induction f using Nat.strongRecOn with
            | _ f IH =>
              intro k out hf ho
              rw [eT1]
              refine .seq <| .seq <| .reg <| .mv rfl rfl <| .mv rfl rfl <| .len rfl rfl rfl <| .lss rfl rfl rfl (fun h4 => ?_) (fun h4 => ?_)
              · obtain ⟨s0, hs0⟩ : ∃ s0, out[k]? = some s0 := ⟨_, getD_at (by omega)⟩
                obtain ⟨s1, hs1⟩ : ∃ s1, seen'[k]? = some s1 := ⟨_, getD_at (by omega)⟩
                refine .nil <| .condT rfl <| .skip <| .seq <| .block <| .reg <| .mv rfl rfl <| .mv rfl rfl <| .mv rfl rfl <| .mv rfl rfl <| .iaR rfl rfl rfl rfl (by first | assumption | (simp; omega)) <| .ldR rfl rfl rfl (by rw [List.getElem?_map, hs0]; rfl) rfl <| .bB (fun h5 => ?_) (fun h5 => ?_)
                · refine .mv rfl rfl <| .gs rfl rfl rfl <| .gs rfl rfl rfl <| .gs rfl rfl rfl <| .gs rfl rfl rfl <| .pickT rfl rfl rfl <| .iaR rfl rfl rfl rfl (by first | assumption | (simp; omega)) <| .stR rfl rfl rfl rfl rfl rfl rfl (by rw [List.getElem?_map, hs0]; rfl) (of_decide_eq_true rfl) rfl <| .nil <| .inBlock <| .reg <| .mv rfl rfl <| .add rfl rfl rfl (by omega) <| .mv rfl rfl <| .nil <| hT1 <| ?_
                  exact RA.ws [_, _, _] (IH (f - 1) (by omega) (k + 1) (out.set k true) (by omega) (by simp [ho])) nT1 (by exact .l rfl rfl rfl <| .r rfl rfl <| .k rfl rfl <| .r rfl rfl <| .i rfl (by omega) .nil) (by exact .b rfl rfl (.same rfl) <| .x rfl rfl (by rw [List.map_set]; rfl) (fun _ => rfl) <| .r rfl rfl (fun _ => rfl) .nil)
                · refine .mv rfl rfl <| .g rfl rfl <| .mv rfl rfl <| .g rfl rfl <| .mv rfl rfl <| .g rfl rfl <| .iaR rfl rfl rfl rfl (by first | assumption | (simp; omega)) <| .g rfl rfl <| .ldR rfl rfl rfl (by rw [List.getElem?_map, hs1]; rfl) rfl <| .pickF rfl rfl rfl <| .iaR rfl rfl rfl rfl (by first | assumption | (simp; omega)) <| .stR rfl rfl rfl rfl rfl rfl rfl (by rw [List.getElem?_map, hs0]; rfl) (of_decide_eq_true rfl) rfl <| .nil <| .inBlock <| .reg <| .mv rfl rfl <| .add rfl rfl rfl (by omega) <| .mv rfl rfl <| .nil <| hT1 <| ?_
                  exact RA.ws [_, _, _] (IH (f - 1) (by omega) (k + 1) (out.set k s1) (by omega) (by simp [ho])) nT1 (by exact .l rfl rfl rfl <| .r rfl rfl <| .k rfl rfl <| .r rfl rfl <| .i rfl (by omega) .nil) (by exact .b rfl rfl (.same rfl) <| .x rfl rfl (by rw [List.map_set]; rfl) (fun _ => rfl) <| .r rfl rfl (fun _ => rfl) .nil)
              · refine .nil <| .condF rfl <| .exit rfl <| .inBlock <| .reg <| .mv rfl rfl <| .add rfl rfl rfl (by omega) <| .mv rfl rfl <| .nil <| hT0 <| ?_
                exact RA.wr [_, _] (ih (pre ++ [a]) out _ (by simp [hc]) ho hQ) nT0 (hm := by exact .b rfl rfl (.same rfl) <| .r rfl rfl (fun _ => rfl) .nil)
          exact RA.ws [_, _, _] (L1 seen'.length 0 out (by omega) ho) nT1 (by exact .l rfl rfl rfl <| .r rfl rfl <| .k rfl rfl <| .r rfl rfl <| .k rfl rfl .nil) (by exact .b rfl rfl (.same rfl) <| .r rfl rfl (fun _ => rfl) <| .r rfl rfl (fun _ => rfl) .nil)
        · refine .nil (by kernel_rfl) <| .condF rfl <| .skip <| .inBlock <| .reg <| .mv rfl rfl <| .add rfl rfl rfl (by omega) <| .mv rfl rfl <| .nil <| hT0 <| ?_
          exact RA.wr [_, _] (ih (pre ++ [a]) out _ (by simp [hc]) ho hQ) nT0 (hm := by exact .b rfl rfl (.same rfl) <| .r rfl rfl (fun _ => rfl) .nil)
  exact RA.wr [_, _] (L0 d.sups [] (List.replicate d.pages.length false) _ rfl (by simp) (fun l hl => ⟨l, rfl, rfl, hl⟩)) nT0 (hm := by exact .b rfl rfl (.same rfl) <| .r rfl rfl (fun _ => rfl) .nil)
theorem s_l6Taken (d : Dk) (hd : d.B) : ∃ (out : List Bool), (out.length = d.pages.length) ∧ RF Y 164 [.agg d.e] (.own true 1 0 (out.map Oc)) [] := by
  obtain ⟨r, o, ⟨out, rfl, rfl, hp⟩, hr⟩ := s_l6Taken_x d hd
  exact ⟨out, hp, hr⟩
theorem s_l6Plan_x (t : Tr) (h : t.sz ≤ 10000) (IHk : ∀ k, k ∈ t.ks → ∀ (taken : List Bool) (list : List Wr), taken.length ≤ 1000 → Lok list → list.length + (k).sz ≤ 1000000 → ∃ (tk' : List Bool), tk'.length = taken.length ∧ ((∃ (ls' : List Wr) (a' : Nat), (a' < taken.length ∧ Lok ls' ∧ ls'.length ≤ list.length + (k).sz) ∧ RF Y 163 [.agg (k).e, .own true 1 0 (taken.map Oc), .own true 4 0 (list.map Wr.c)] (.tup [.own true 4 0 (ls'.map Wr.c), i64 a']) [.own true 1 0 (tk'.map Oc), .junk]) ∨ RF Y 163 [.agg (k).e, .own true 1 0 (taken.map Oc), .own true 4 0 (list.map Wr.c)] (.tup [.junk, i64 (-1)]) [.own true 1 0 (tk'.map Oc), .junk])) (taken : List Bool) (list : List Wr) (ht : taken.length ≤ 1000) (hl : Lok list) (hn : list.length + t.sz ≤ 1000000) : RFx Y 163 [.agg t.e, .own true 1 0 (taken.map Oc), .own true 4 0 (list.map Wr.c)] (fun r o => ∃ (tk' : List Bool), o = [.own true 1 0 (tk'.map Oc), .junk] ∧ tk'.length = taken.length ∧ (r = .tup [.junk, i64 (-1)] ∨ ∃ (ls' : List Wr) (a' : Nat), r = .tup [.own true 4 0 (ls'.map Wr.c), i64 a'] ∧ a' < taken.length ∧ Lok ls' ∧ ls'.length ≤ list.length + t.sz)) := by
  refine RFx.s3 rfl rfl rfl ?_
  refine .seq <| .reg <| .box rfl rfl rfl <| .mv rfl rfl <| .mv rfl rfl <| .nil <| .seq <| .reg <| .row0 rfl rfl rfl <| .mv rfl rfl <| .nil <| .seq <| .seq <| .reg <| .mv rfl rfl <| .nil <| .block <| ?_
  refine RA.loopI fun T0 hT0 nT0 eT0 => ?_
  have L0 : ∀ (post pre : List Tr) (tk : List Bool) (ls : List Wr) (ks : List Int) (Q : Qst), t.ks = pre ++ post → tk.length = taken.length → Lok ls → ls.length ≤ list.length + Tr.szL pre → ks.length = pre.length → (∀ r o, (fun r o => ∃ (tk' : List Bool), o = [.own true 1 0 (tk'.map Oc), .junk] ∧ tk'.length = taken.length ∧ (r = .tup [.junk, i64 (-1)] ∨ ∃ (ls' : List Wr) (a' : Nat), r = .tup [.own true 4 0 (ls'.map Wr.c), i64 a'] ∧ a' < taken.length ∧ Lok ls' ∧ ls'.length ≤ list.length + t.sz)) r o → Q r o) → RA Y a163 T0 [(1, .row 0), (2, .row 1), (3, .elt 2 0 0), (8, .row 3), (9, i64 pre.length)] [(0, .row true 1 0 (tk.map Oc)), (1, .row true 4 0 (ls.map Wr.c)), (2, .box t.e), (3, .row true 1 0 (ks.map Ic))] 4 Q := by
    intro post
    induction post with
    | nil =>
      intro pre tk ls ks Q hc htk hls hll hks hQ
      have hl : t.ks.length = pre.length := by simp [hc]
      have hpre : pre = t.ks := by simpa using hc.symm
      have hsz3 := t.sz_eq
      have hszl := Tr.szL_len t.ks
      have hll : ls.length ≤ list.length + Tr.szL t.ks := by rw [hpre] at hll; exact hll
      have hlk : t.ks.length = pre.length := by rw [hpre]
      rw [eT0]
      refine .seq <| .seq <| .reg <| .mv rfl rfl <| .fa rfl rfl <| .ldE rfl rfl rfl rfl <| .len rfl rfl rfl <| .lssF rfl rfl rfl (by omega) <| .nil <| .condF rfl <| .exit rfl <| .seq <| .seq <| .reg <| .mv rfl rfl <| .nil <| .block <| ?_
      refine RA.loopI fun T1 hT1 nT1 eT1 => ?_
      have L1 : ∀ (f i : Nat), i + f = tk.length → RA Y a163 T1 [(1, .row 0), (2, .row 1), (3, .elt 2 0 0), (8, .row 3), (12, i64 i)] [(0, .row true 1 0 (tk.map Oc)), (1, .row true 4 0 (ls.map Wr.c)), (2, .box t.e), (3, .row true 1 0 (ks.map Ic))] 4 Q := by
        intro f
        induction f using Nat.strongRecOn with
        | _ f IH =>
          intro i hf
          rw [eT1]
          refine .seq <| .seq <| .reg <| .mv rfl rfl <| .mv rfl rfl <| .len rfl rfl rfl <| .lss rfl rfl rfl (fun h2 => ?_) (fun h2 => ?_)
          · obtain ⟨s0, hs0⟩ : ∃ s0, tk[i]? = some s0 := ⟨_, getD_at (by omega)⟩
            refine .nil <| .condT rfl <| .skip <| .seq <| .block <| .seq <| .reg <| .mv rfl rfl <| .mv rfl rfl <| .iaR rfl rfl rfl rfl (by first | assumption | (simp; omega)) <| .ldR rfl rfl rfl (by rw [List.getElem?_map, hs0]; rfl) rfl <| .bB (fun h3 => ?_) (fun h3 => ?_)
            · refine .notT rfl rfl <| .nil <| .condF rfl <| .skip <| .inBlock <| .reg <| .mv rfl rfl <| .add rfl rfl rfl (by omega) <| .mv rfl rfl <| .nil <| hT1 <| ?_
              exact RA.ws [_, _, _, _] (IH (f - 1) (by omega) (i + 1) (by omega)) nT1 (by exact .r rfl rfl <| .r rfl rfl <| .l rfl rfl rfl <| .r rfl rfl <| .i rfl (by omega) .nil) (by exact .r rfl rfl (fun _ => rfl) <| .r rfl rfl (fun _ => rfl) <| .b rfl rfl (.same rfl) <| .r rfl rfl (fun _ => rfl) .nil)
            · refine .notF rfl rfl <| .nil <| .condT rfl <| .seq <| .reg <| .mv rfl rfl <| .mv rfl rfl <| .iaR rfl rfl rfl rfl (by first | assumption | (simp; omega)) <| .stR rfl rfl rfl rfl rfl rfl rfl (by rw [List.getElem?_map, hs0]; rfl) (of_decide_eq_true rfl) rfl <| .nil <| .seq <| .reg <| .aE rfl rfl rfl rfl <| .mv rfl rfl <| ?_
              obtain ⟨bs, ok, hb, R1⟩ := s_PutNode t ks h (by omega)
              refine .c rfl rfl rfl R1 (.c .r (.c (.fz (.rw (fun h => h))) .n)) rfl rfl rfl (by decide) <| .mv rfl rfl <| .ex rfl rfl rfl <| .ex rfl rfl rfl <| .mv rfl rfl <| .mv rfl rfl <| .nil <| .seq <| .reg <| .mv rfl rfl <| .mv rfl rfl <| .mv rfl rfl <| .cvSt rfl rfl rfl <| .build (cs := [_, _, _, _]) rfl rfl rfl <| .row1P rfl rfl rfl rfl rfl rfl rfl rfl <| .ap rfl rfl rfl rfl rfl (by simp; omega) (by decide) <| .mv rfl rfl <| .mv rfl rfl <| .mv rfl rfl <| .nil <| .ret rfl (hQ _ _ ⟨tk.set i true, rfl, by simp [htk], .inr ⟨ls ++ [⟨i, ⟨bs.toArray⟩, ⟨0, 0⟩⟩], i, rfl, by omega, hls.snoc ⟨by simp only; omega, by simp only; omega, by rw [size_mk]; omega⟩, by simp; omega⟩⟩) (by first | exact .tup2 .junk .r | exact .tup2 (.rw (fun _ => rfl)) .r) (by first | exact LeBs.refl | exact .c (.ox (by rw [List.map_set]; rfl) (fun _ => rfl)) (.c .r .n))
          · refine .nil <| .condF rfl <| .exit rfl <| .seq <| .reg <| .mv rfl rfl <| .mv rfl rfl <| .mv rfl rfl <| .nil <| .ret rfl (hQ _ _ ⟨tk, rfl, htk, .inl rfl⟩) (by first | exact .tup2 .junk .r | exact .tup2 (.rw (fun _ => rfl)) .r) (by first | exact LeBs.refl | exact .c (.ox (by rw [List.map_set]; rfl) (fun _ => rfl)) (.c .r .n))
      exact RA.ws [_, _, _, _] (L1 tk.length 0 (by omega)) nT1 (by exact .r rfl rfl <| .r rfl rfl <| .l rfl rfl rfl <| .r rfl rfl <| .k rfl rfl .nil) (by exact .r rfl rfl (fun _ => rfl) <| .r rfl rfl (fun _ => rfl) <| .b rfl rfl (.same rfl) <| .r rfl rfl (fun _ => rfl) .nil)
    | cons a post ih =>
      intro pre tk ls ks Q hc htk hls hll hks hQ
      have hl : t.ks.length = pre.length + post.length + 1 := by simp [hc]; omega
      have ha : t.ks[pre.length]? = some a := by simp [hc]
      have hszl := Tr.szL_len t.ks
      have hks2 := Tr.kid_sz (List.mem_of_getElem? ha)
      have hsz2 := Tr.szL_app pre (a :: post)
      rw [← hc] at hsz2
      have hsz3 := t.sz_eq
      have hsz4 : Tr.szL (pre ++ [a]) = Tr.szL pre + a.sz := by rw [Tr.szL_app]; simp [Tr.szL]
      simp only [Tr.szL] at hsz2
      rw [eT0]
      refine .seq <| .seq <| .reg <| .mv rfl rfl <| .fa rfl rfl <| .ldE rfl rfl rfl rfl <| .len rfl rfl rfl <| .lssT rfl rfl rfl (by omega) <| .nil <| .condT rfl <| .skip <| .seq <| .block <| .seq <| .reg <| .fa rfl rfl <| .ldE rfl rfl rfl rfl <| .mv rfl rfl <| .ia rfl rfl rfl (by assumption) <| .aF rfl rfl rfl <| .mv rfl rfl <| .mv rfl rfl <| ?_
      obtain ⟨tk', htk', ⟨ls', a', ⟨ha', hls', hll'⟩, R⟩ | R⟩ := IHk a (List.mem_of_getElem? ha) tk ls (by omega) hls (by omega)
      · refine .cM rfl rfl rfl R (.c .r (.c (.rw (fun h => h)) (.c (.rw (fun h => h)) .n))) (backs_3 rfl rfl rfl (by simp [htk', htk]) rfl) rfl (by decide) <| .mv rfl rfl <| .ex rfl rfl rfl <| .ex rfl rfl rfl <| .mv rfl rfl <| .mv rfl rfl <| .nil <| .seq <| .seq <| .reg <| .mv rfl rfl <| .lss rfl rfl rfl (fun h2 => ?_) (fun h2 => ?_)
        · exfalso; omega
        · refine .nil <| .condF rfl <| .skip <| .seq <| .reg <| .mv rfl rfl <| .mv rfl rfl <| .nil <| .reg <| .mv rfl rfl <| .mv rfl rfl <| .row1P rfl rfl rfl rfl rfl rfl rfl rfl <| .ap rfl rfl rfl rfl rfl (by simp; omega) (by decide) <| .mv rfl rfl <| .nil <| .inBlock <| .reg <| .mv rfl rfl <| .add rfl rfl rfl (by omega) <| .mv rfl rfl <| .nil <| hT0 <| ?_
          exact RA.ws [_, _, _, _] (ih (pre ++ [a]) tk' ls' (ks ++ [(a' : Int)]) _ (by simp [hc]) (htk'.trans htk) hls' (by omega) (by simp [hks]) hQ) nT0 (by exact .r rfl rfl <| .r rfl rfl <| .l rfl rfl rfl <| .r rfl rfl <| .i rfl (by simp) .nil) (by exact .r rfl rfl (fun _ => rfl) <| .r rfl rfl (fun _ => rfl) <| .b rfl rfl (.same rfl) <| .r rfl rfl (fun _ => rfl) .nil)
      · refine .cM rfl rfl rfl R (.c .r (.c (.rw (fun h => h)) (.c (.rw (fun h => h)) .n))) (backs_3 rfl rfl rfl (by simp [htk', htk]) rfl) rfl (by decide) <| .mv rfl rfl <| .ex rfl rfl rfl <| .ex rfl rfl rfl <| .mv rfl rfl <| .mv rfl rfl <| .nil <| .seq <| .seq <| .reg <| .mv rfl rfl <| .lss rfl rfl rfl (fun h3 => ?_) (fun h3 => ?_)
        · refine .nil <| .condT rfl <| .seq <| .reg <| .mv rfl rfl <| .mv rfl rfl <| .mv rfl rfl <| .nil <| .ret rfl (hQ _ _ ⟨tk', rfl, htk'.trans htk, .inl rfl⟩) (by first | exact .tup2 .junk .r | exact .tup2 (.rw (fun _ => rfl)) .r) (by first | exact LeBs.refl | exact .c (.ox (by rw [List.map_set]; rfl) (fun _ => rfl)) (.c .r .n))
        · exact absurd (by decide) h3
  exact RA.ws [_, _, _, _] (L0 t.ks [] taken list [] _ rfl rfl hl (Nat.le_add_right _ _) rfl (fun r o h => h)) nT0 (by exact .r rfl rfl <| .r rfl rfl <| .l rfl rfl rfl <| .r rfl rfl <| .i rfl (by simp) .nil) (by exact .r rfl rfl (fun _ => rfl) <| .r rfl rfl (fun _ => rfl) <| .b rfl rfl (.same rfl) <| .x rfl rfl rfl (fun _ => rfl) .nil)
theorem s_l6Plan : ∀ (n : Nat) (t : Tr), t.sz ≤ n → t.sz ≤ 10000 → ∀ (taken : List Bool) (list : List Wr), taken.length ≤ 1000 → Lok list → list.length + (t).sz ≤ 1000000 → ∃ (tk' : List Bool), tk'.length = taken.length ∧ ((∃ (ls' : List Wr) (a' : Nat), (a' < taken.length ∧ Lok ls' ∧ ls'.length ≤ list.length + (t).sz) ∧ RF Y 163 [.agg (t).e, .own true 1 0 (taken.map Oc), .own true 4 0 (list.map Wr.c)] (.tup [.own true 4 0 (ls'.map Wr.c), i64 a']) [.own true 1 0 (tk'.map Oc), .junk]) ∨ RF Y 163 [.agg (t).e, .own true 1 0 (taken.map Oc), .own true 4 0 (list.map Wr.c)] (.tup [.junk, i64 (-1)]) [.own true 1 0 (tk'.map Oc), .junk]) := by
  intro n
  induction n with
  | zero => intro t h; have := t.sz_pos; omega
  | succ n IH =>
    intro t h h' taken list ht hl hn
    obtain ⟨r, o, ⟨tk', rfl, htk, hp⟩, hr⟩ := s_l6Plan_x t h' (fun k hk => IH k (by have := Tr.kid_sz hk; omega) (by have := Tr.kid_sz hk; omega)) taken list ht hl hn
    rcases hp with rfl | ⟨ls', a', rfl, h1, h2, h3⟩
    · exact ⟨tk', htk, .inr hr⟩
    · exact ⟨tk', htk, .inl ⟨ls', a', ⟨h1, h2, h3⟩, hr⟩⟩
theorem s_Plan_x (d : Dk) (hd : d.B) (t : Tr) (h : t.sz ≤ 10000) : RFx Y 131 [.agg d.e, .agg t.e] (fun r o => ∃ (ls : List Wr) (ok : Bool), r = .tup [.own true 4 0 (ls.map Wr.c), .b ok] ∧ o = [] ∧ Lok ls ∧ ls.length ≤ 20000) := by
  refine RFx.s2 rfl rfl rfl ?_
  have hd1 := hd.1
  have hd2 := hd.2.1
  refine .seq <| .reg <| .box rfl rfl rfl <| .box rfl rfl rfl <| .mv rfl rfl <| .mv rfl rfl <| .nil <| .seq <| .reg <| .mv rfl rfl <| .mv rfl rfl <| .nil <| .seq <| .seq <| .reg <| .aE rfl rfl rfl rfl <| .c rfl rfl rfl (s_TreeOk t (by omega)) .refl rfl rfl rfl (by decide) <| .bB (fun h1 => ?_) (fun h1 => ?_)
  · refine .notT rfl rfl <| .mv rfl rfl <| .g rfl rfl <| .fa rfl rfl <| .g rfl rfl <| .ldE rfl rfl rfl rfl <| .g rfl rfl <| .len rfl rfl rfl <| .g rfl rfl <| .neq rfl rfl rfl (fun h2 => ?_) (fun h2 => ?_)
    · refine .pickF rfl rfl rfl <| .nil <| .condT rfl <| .seq <| .reg <| .mv rfl rfl <| .mv rfl rfl <| .mv rfl rfl <| .nil <| .ret rfl ⟨[], false, rfl, rfl, Lok.nil, by simp⟩ (by first | exact .tup2 .nilO .r | exact .tup2 (.rw (fun _ => rfl)) .r | exact .tup2 (.ox (by rw [List.map_append]; rfl) (fun _ => rfl)) .r) LeBs.refl
    · refine .pickF rfl rfl rfl <| .nil <| .condF rfl <| .skip <| .seq <| .regD <| .aE rfl rfl rfl rfl <| .aE rfl rfl rfl rfl <| ?_
      obtain ⟨tk, htk, R1⟩ := s_l6Taken d hd
      refine .c rfl rfl rfl R1 .refl rfl rfl rfl (by decide) <| .mv rfl rfl <| ?_
      obtain ⟨tk', htk', ⟨ls', a', ⟨ha', hls', hll'⟩, R⟩ | R⟩ := s_l6Plan _ t (Nat.le_refl _) h tk [] (by omega) Lok.nil (by simp; omega)
      · refine .cM rfl rfl rfl R (.c .r (.c (.rw (fun h => h)) (.c (.nilO (f := Wr.c)) .n))) (backs_3 rfl rfl rfl (by simp [htk']) rfl) rfl (by decide) <| .mv rfl rfl <| .ex rfl rfl rfl <| .ex rfl rfl rfl <| .mv rfl rfl <| .mv rfl rfl <| .nil (by kernel_rfl) <| .seq <| .seq <| .reg <| .mv rfl rfl <| .lss rfl rfl rfl (fun h3 => ?_) (fun h3 => ?_)
        · exfalso; omega
        · obtain ⟨s0, hs0⟩ : ∃ s0, d.sups[0]? = some s0 := ⟨_, getD_at (by omega)⟩
          obtain ⟨s1, hs1⟩ : ∃ s1, d.sups[1]? = some s1 := ⟨_, getD_at (by omega)⟩
          have hll' : ls'.length ≤ t.sz := by simpa using hll'
          refine .nil <| .condF rfl <| .skip <| .seq <| .regD <| .fa rfl rfl <| .ldE rfl rfl rfl rfl <| .ia (n := 0) rfl rfl rfl hs0 <| .faF rfl rfl <| .ldF rfl rfl rfl <| .fa rfl rfl <| .ldE rfl rfl rfl rfl <| .ia (n := 1) rfl rfl rfl hs1 <| .faF rfl rfl <| .ldF rfl rfl rfl <| .mv rfl rfl <| .mv rfl rfl <| .nil (by kernel_rfl) <| .seq <| .reg <| .mv rfl rfl <| .mv rfl rfl <| .c rfl rfl rfl (s_l1Max s0.ver s1.ver) .refl rfl rfl rfl (by decide) <| .any rfl rfl <| fun z1 => .mv rfl rfl <| .build (cs := [_, _]) rfl rfl rfl <| .build (cs := [_, _, _, _]) rfl rfl rfl <| .new rfl <| .stA rfl rfl rfl rfl rfl rfl <| .nil <| .seq <| .seq <| .reg <| .mv rfl rfl <| .mv rfl rfl <| .lss rfl rfl rfl (fun h4 => ?_) (fun h4 => ?_)
          · refine .nil <| .condT rfl <| .reg <| .fa rfl rfl <| .st1 rfl rfl rfl rfl rfl (of_decide_eq_true rfl) <| .nil <| .seq <| .reg <| .mv rfl rfl <| .aE rfl rfl rfl rfl <| .row1P rfl rfl rfl rfl rfl rfl rfl rfl <| .ap rfl rfl rfl rfl rfl (by simp; omega) (by decide) <| .mv rfl rfl <| .mv rfl rfl <| .nil <| .ret rfl ⟨ls' ++ [⟨-2, ⟨#[]⟩, ⟨z1, a'⟩⟩], true, rfl, rfl, hls'.snoc ⟨by show (-9223372036854775808 : Int) ≤ -2; decide, by show (-2 : Int) ≤ 9223372036854775807; decide, Nat.zero_le _⟩, by simp; omega⟩ (by first | exact .tup2 .nilO .r | exact .tup2 (.rw (fun _ => rfl)) .r | exact .tup2 (.ox (by rw [List.map_append]; rfl) (fun _ => rfl)) .r) LeBs.refl
          · refine .nil <| .condF rfl <| .skip <| .seq <| .reg <| .mv rfl rfl <| .aE rfl rfl rfl rfl <| .row1P rfl rfl rfl rfl rfl rfl rfl rfl <| .ap rfl rfl rfl rfl rfl (by simp; omega) (by decide) <| .mv rfl rfl <| .mv rfl rfl <| .nil <| .ret rfl ⟨ls' ++ [⟨-1, ⟨#[]⟩, ⟨z1, a'⟩⟩], true, rfl, rfl, hls'.snoc ⟨by show (-9223372036854775808 : Int) ≤ -1; decide, by show (-1 : Int) ≤ 9223372036854775807; decide, Nat.zero_le _⟩, by simp; omega⟩ (by first | exact .tup2 .nilO .r | exact .tup2 (.rw (fun _ => rfl)) .r | exact .tup2 (.ox (by rw [List.map_append]; rfl) (fun _ => rfl)) .r) LeBs.refl
      · refine .cM rfl rfl rfl R (.c .r (.c (.rw (fun h => h)) (.c (.nilO (f := Wr.c)) .n))) (backs_3 rfl rfl rfl (by simp [htk']) rfl) rfl (by decide) <| .mv rfl rfl <| .ex rfl rfl rfl <| .ex rfl rfl rfl <| .mv rfl rfl <| .mv rfl rfl <| .nil (by kernel_rfl) <| .seq <| .seq <| .reg <| .mv rfl rfl <| .lss rfl rfl rfl (fun h5 => ?_) (fun h5 => ?_)
        · refine .nil <| .condT rfl <| .seq <| .reg <| .mv rfl rfl <| .mv rfl rfl <| .mv rfl rfl <| .nil <| .ret rfl ⟨[], false, rfl, rfl, Lok.nil, by simp⟩ (by first | exact .tup2 .nilO .r | exact .tup2 (.rw (fun _ => rfl)) .r | exact .tup2 (.ox (by rw [List.map_append]; rfl) (fun _ => rfl)) .r) LeBs.refl
        · exact absurd (by decide) h5
  · refine .notF rfl rfl <| .mv rfl rfl <| .gs rfl rfl rfl <| .gs rfl rfl rfl <| .gs rfl rfl rfl <| .gs rfl rfl rfl <| .pickT rfl rfl rfl <| .nil <| .condT rfl <| .seq <| .reg <| .mv rfl rfl <| .mv rfl rfl <| .mv rfl rfl <| .nil <| .ret rfl ⟨[], false, rfl, rfl, Lok.nil, by simp⟩ (by first | exact .tup2 .nilO .r | exact .tup2 (.rw (fun _ => rfl)) .r | exact .tup2 (.ox (by rw [List.map_append]; rfl) (fun _ => rfl)) .r) LeBs.refl
theorem s_Plan (d : Dk) (hd : d.B) (t : Tr) (h : t.sz ≤ 10000) : ∃ (ls : List Wr) (ok : Bool), (Lok ls ∧ ls.length ≤ 20000) ∧ RF Y 131 [.agg d.e, .agg t.e] (.tup [.own true 4 0 (ls.map Wr.c), .b ok]) [] := by
  obtain ⟨r, o, ⟨ls, ok, rfl, rfl, hp⟩, hr⟩ := s_Plan_x d hd t h
  exact ⟨ls, ok, hp, hr⟩
end Go.Proofs.Ytjjocahgbmibeaa
