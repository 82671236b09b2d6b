/- Walks: what is written to a disk (both). -/
import Derived.Test.YtjjocahgbmibeaaW23
import Derived.Test.YtjjocahgbmibeaaW4
namespace Go.Proofs.Ytjjocahgbmibeaa
open Go.Eng
set_option maxRecDepth 4000
set_option linter.unusedSimpArgs false
set_option linter.unusedVariables false
def wr1 (d : Dk) (w : Wr) : Dk :=
  ⟨if 0 ≤ w.at_ ∧ w.at_ ≤ (d.pages.length : Int) - 1 then d.pages.set w.at_.toNat w.text else d.pages,
   if (w.at_ = -1 ∨ w.at_ = -2) ∧ -1 - w.at_ < (d.sups.length : Int) then d.sups.set (-1 - w.at_).toNat w.sup else d.sups⟩
def doAll (d : Dk) (l : List Wr) : Dk := l.foldl wr1 d
theorem wr1_p {d : Dk} {w : Wr} (h : 0 ≤ w.at_ ∧ w.at_ ≤ (d.pages.length : Int) - 1) : wr1 d w = ⟨d.pages.set w.at_.toNat w.text, d.sups⟩ := by
  unfold wr1
  rw [if_pos h, if_neg (by omega)]
theorem wr1_s {d : Dk} {w : Wr} (h : w.at_ = -1 ∨ w.at_ = -2) (h' : -1 - w.at_ < (d.sups.length : Int)) : wr1 d w = ⟨d.pages, d.sups.set (-1 - w.at_).toNat w.sup⟩ := by
  unfold wr1
  rw [if_neg (by omega), if_pos ⟨h, h'⟩]
theorem wr1_n {d : Dk} {w : Wr} (h : ¬ (0 ≤ w.at_ ∧ w.at_ ≤ (d.pages.length : Int) - 1)) (h' : ¬ ((w.at_ = -1 ∨ w.at_ = -2) ∧ -1 - w.at_ < (d.sups.length : Int))) : wr1 d w = d := by
  unfold wr1
  rw [if_neg h, if_neg h']
theorem wr1_len (d : Dk) (w : Wr) : (wr1 d w).pages.length = d.pages.length ∧ (wr1 d w).sups.length = d.sups.length := by
  unfold wr1
  constructor <;> simp only <;> split <;> simp
theorem doAll_len (l : List Wr) : ∀ d : Dk, (doAll d l).pages.length = d.pages.length ∧ (doAll d l).sups.length = d.sups.length := by
  induction l with
  | nil => exact fun d => ⟨rfl, rfl⟩
  | cons w l ih => intro d; rw [doAll, List.foldl_cons]; have h1 := ih (wr1 d w); have h2 := wr1_len d w; exact ⟨h1.1.trans h2.1, h1.2.trans h2.2⟩
theorem doAll_B {l : List Wr} (hl : Lok l) : ∀ {d : Dk}, d.B → (doAll d l).B := by
  induction l with
  | nil => exact fun h => h
  | cons w l ih =>
    intro d h
    rw [doAll, List.foldl_cons]
    refine ih (fun x hx => hl x (List.mem_cons_of_mem _ hx)) ⟨?_, ?_, ?_⟩
    · rw [(wr1_len d w).1]; exact h.1
    · rw [(wr1_len d w).2]; exact h.2.1
    · intro p hp
      unfold wr1 at hp
      simp only at hp
      split at hp
      · rcases List.mem_or_eq_of_mem_set hp with q | q
        · exact h.2.2 p q
        · subst q; exact (hl w List.mem_cons_self).2.2
      · exact h.2.2 p hp
theorem _root_.Go.Eng.RO.eqsE {Y : EngSys} {fn : AFn} {ops rest : List AOper} {i : Nat} {k : List AItem} {env : Env'} {mem : Mem'} {next d es : Nat} {Q : Qst} {x : AOpd} {ne fl : Bool} (h : ops = ⟨some d, .eqn ne x, none⟩ :: rest) (hx : x.lk env = some (.fro fl es [])) (h' : RO Y fn rest (i + 1) k ((d, .anyb) :: env) mem next Q) : RO Y fn ops i k env mem next Q :=
  RO.p h (by simp [AOp.map, act, AOpd.lk_get hx]) h'
theorem _root_.Go.Eng.RO.eqsF {Y : EngSys} {fn : AFn} {ops rest : List AOper} {i : Nat} {k : List AItem} {env : Env'} {mem : Mem'} {next d es : Nat} {Q : Qst} {x : AOpd} {ne fl : Bool} {xs : List (List AV)} (h : ops = ⟨some d, .eqn ne x, none⟩ :: rest) (hx : x.lk env = some (.fro fl es xs)) (hn : xs.isEmpty = false) (h' : RO Y fn rest (i + 1) k ((d, .b ne) :: env) mem next Q) : RO Y fn ops i k env mem next Q :=
  RO.p h (by simp [AOp.map, act, AOpd.lk_get hx, hn]) h'
theorem Clone_string (xs : List (List AV)) (h : xs.length ≤ 1000000) : RF Y 132 [.fro true 1 xs] (.own true 1 0 xs) [] := by
  refine RF.s1 rfl rfl rfl fun Q hQ => ?_
  cases xs with
  | nil =>
    refine .seq <| .reg <| .mv rfl rfl <| .nil <| .seq <| .seq <| .reg <| .mv rfl rfl <| .eqsE rfl rfl <| .nil <| .both rfl hQ ?_ ?_
    · exact .seq <| .reg <| .mv rfl rfl <| .nil <| .ret rfl ⟨rfl, rfl⟩ .empO LeBs.refl
    · exact .skip <| .seq <| .reg <| .row0 rfl rfl rfl <| .mv rfl rfl <| .ap rfl rfl rfl rfl rfl (by simp) (by decide) <| .mv rfl rfl <| .nil <| .ret rfl ⟨rfl, rfl⟩ (.ox rfl (by first | exact fun _ => rfl | exact fun h => by cases h)) LeBs.refl
  | cons p ps =>
    exact .seq <| .reg <| .mv rfl rfl <| .nil <| .seq <| .seq <| .reg <| .mv rfl rfl <| .eqsF rfl rfl rfl <| .nil <| .condF rfl <| .skip <| .seq <| .reg <| .row0 rfl rfl rfl <| .mv rfl rfl <| .ap rfl rfl rfl rfl rfl (by simp at h ⊢; omega) (by decide) <| .mv rfl rfl <| .nil <| .ret rfl hQ (.ox rfl (by first | exact fun _ => rfl | exact fun h => by cases h)) LeBs.refl
theorem Clone_Super (xs : List (List AV)) (h : xs.length ≤ 1000000) : RF Y 133 [.fro true 2 xs] (.own true 2 0 xs) [] := by
  refine RF.s1 rfl rfl rfl fun Q hQ => ?_
  cases xs with
  | nil =>
    refine .seq <| .reg <| .mv rfl rfl <| .nil <| .seq <| .seq <| .reg <| .mv rfl rfl <| .eqsE rfl rfl <| .nil <| .both rfl hQ ?_ ?_
    · exact .seq <| .reg <| .mv rfl rfl <| .nil <| .ret rfl ⟨rfl, rfl⟩ .empO LeBs.refl
    · exact .skip <| .seq <| .reg <| .row0 rfl rfl rfl <| .mv rfl rfl <| .ap rfl rfl rfl rfl rfl (by simp) (by decide) <| .mv rfl rfl <| .nil <| .ret rfl ⟨rfl, rfl⟩ (.ox rfl (by first | exact fun _ => rfl | exact fun h => by cases h)) LeBs.refl
  | cons p ps =>
    exact .seq <| .reg <| .mv rfl rfl <| .nil <| .seq <| .seq <| .reg <| .mv rfl rfl <| .eqsF rfl rfl rfl <| .nil <| .condF rfl <| .skip <| .seq <| .reg <| .row0 rfl rfl rfl <| .mv rfl rfl <| .ap rfl rfl rfl rfl rfl (by simp at h ⊢; omega) (by decide) <| .mv rfl rfl <| .nil <| .ret rfl hQ (.ox rfl (by first | exact fun _ => rfl | exact fun h => by cases h)) LeBs.refl
theorem s_l6Copy (d : Dk) (hp : d.pages.length ≤ 1000) (hs : d.sups.length ≤ 1000) : RF Y 84 [.agg d.e] (d.o) [] := by
  refine RF.s1 rfl rfl rfl fun Q hQ => ?_
  refine .seq <| .reg <| .box rfl rfl rfl <| .new rfl <| .nil <| .seq <| .regD <| .row0 rfl rfl rfl <| .fa rfl rfl <| .ldE rfl rfl rfl rfl <| .ap rfl rfl rfl rfl rfl (by simp; omega) (by decide) <| .row0 rfl rfl rfl <| .fa rfl rfl <| .ldE rfl rfl rfl rfl <| .ap rfl rfl rfl rfl rfl (by simp; omega) (by decide) <| .build (cs := [_, _]) rfl rfl rfl <| .stA rfl rfl rfl rfl rfl rfl <| .nil (by kernel_rfl) <| .ret rfl hQ (.agg2 (by first | exact .rw (fun _ => rfl) | exact .ox rfl (fun _ => rfl)) (by first | exact .rw (fun _ => rfl) | exact .ox rfl (fun _ => rfl))) LeBs.refl
theorem i_copyDisk (d : Dk) (hp : d.pages.length ≤ 1000) (hs : d.sups.length ≤ 1000) : RF Y 82 [.agg d.e] (d.o) [] := by
  refine RF.s1 rfl rfl rfl fun Q hQ => ?_
  refine .seq <| .reg <| .box rfl rfl rfl <| .new rfl <| .nil <| .seq <| .regD <| .fa rfl rfl <| .ldE rfl rfl rfl rfl <| .c rfl rfl rfl (Clone_string (d.pages.map Sc) (by simp; omega)) .refl rfl rfl rfl (by decide) <| .fa rfl rfl <| .ldE rfl rfl rfl rfl <| .c rfl rfl rfl (Clone_Super (d.sups.map Su.c) (by simp; omega)) .refl rfl rfl rfl (by decide) <| .build (cs := [_, _]) rfl rfl rfl <| .stA rfl rfl rfl rfl rfl rfl <| .nil (by kernel_rfl) <| .ret rfl hQ (.agg2 (by first | exact .rw (fun _ => rfl) | exact .ox rfl (fun _ => rfl)) (by first | exact .rw (fun _ => rfl) | exact .ox rfl (fun _ => rfl))) LeBs.refl
end Go.Proofs.Ytjjocahgbmibeaa

namespace Go.Proofs.Ytjjocahgbmibeaa
open Go.Eng
set_option maxRecDepth 4000
set_option linter.unusedSimpArgs false
set_option linter.unusedVariables false
def sel : List Wr → List Bool → List Wr
  | w :: l, b :: bs => if b then w :: sel l bs else sel l bs
  | _, _ => []
theorem sel_nil : ∀ l : List Wr, sel l [] = []
  | [] => rfl
  | _ :: _ => rfl
theorem sel_at {a : Wr} {post : List Wr} {wh : List Bool} {n : Nat} {b : Bool} (h : wh[n]? = some b) : sel (a :: post) (wh.drop n) = if b then a :: sel post (wh.drop (n + 1)) else sel post (wh.drop (n + 1)) := by
  rw [drop_at h]; rfl
theorem sel_out {l : List Wr} {wh : List Bool} {n : Nat} (h : wh.length ≤ n) : sel l (wh.drop n) = [] := by
  rw [List.drop_eq_nil_of_le h, sel_nil]
theorem _root_.Go.Eng.RO.aQ {Y : EngSys} {fn : AFn} {ops rest : List AOper} {i : Nat} {k : List AItem} {env : Env'} {mem : Mem'} {next d : Nat} {Q : Qst} {x : AOpd} {sz j id : Nat} {cs ds : List AV} (h : ops = ⟨some d, .ld sz true x, none⟩ :: rest) (hx : x.lk env = some (.elt id 0 j)) (hm : Eng.look mem id = some (.box cs)) (hd : (cs.drop j).take sz = ds) (hl : j + sz ≤ cs.length) (h' : RO Y fn rest (i + 1) k ((d, .agg ds) :: env) mem next Q) : RO Y fn ops i k env mem next Q :=
  RO.aP h (p := .elt id 0 j) (by simp [ptrCells, hm]) hx hd hl h'
theorem _root_.Go.Eng.RD.aQ {Y : EngSys} {fn : AFn} {ops rest : List AOper} {i : Nat} {tr : List (List Nat × List Nat)} {ps : List (Nat × Nat)} {k : List AItem} {env : Env'} {mem : Mem'} {next d : Nat} {Q : Qst} {x : AOpd} {sz j id : Nat} {cs ds : List AV} (h : ops = ⟨some d, .ld sz true x, none⟩ :: rest) (hx : x.lk env = some (.elt id 0 j)) (hm : Eng.look mem id = some (.box cs)) (hd : (cs.drop j).take sz = ds) (hl : j + sz ≤ cs.length) (h' : RD Y fn rest (i + 1) (tr ++ [(touchOf (Eng.look mem) ((AOp.ld sz true x).map (AOpd.get (E env))), [])]) ps k ((d, .agg ds) :: env) mem next Q) : RD Y fn ops i tr ps k env mem next Q :=
  RD.aP h (p := .elt id 0 j) (by simp [ptrCells, hm]) hx hd hl h'
theorem s_Do (d : Dk) (list : List Wr) (hp : d.pages.length ≤ 1000) (hs : d.sups.length ≤ 1000) (hll : list.length ≤ 1000000) : RF Y 36 [.agg d.e, .fro true 4 (list.map Wr.c)] ((doAll d list).o) [] := by
  refine RF.s2 rfl rfl rfl fun Q hQ => ?_
  refine .seq <| .reg <| .box rfl rfl rfl <| .new rfl <| .nil <| .seq <| .reg <| .aE rfl rfl rfl rfl <| .c rfl rfl rfl (s_l6Copy d hp hs) .refl rfl rfl rfl (by decide) <| .new rfl <| .stA rfl rfl rfl rfl rfl rfl <| .nil <| .seq <| .seq <| .reg <| .mv rfl rfl <| .nil <| .block <| ?_
  refine RA.loopI fun T0 hT0 nT0 eT0 => ?_
  have L0 : ∀ (post pre : List Wr) (e : Dk) (Q : Qst), list = pre ++ post → e.pages.length ≤ 1000 → e.sups.length ≤ 1000 → Q (doAll e post).o [] → RA Y a36 T0 [(1, .fro true 4 (list.map Wr.c)), (4, .elt 0 0 0), (5, .elt 1 0 0), (6, i64 pre.length)] [(0, .box [.emp, .emp]), (1, .box [.row 2, .row 3]), (2, .row true 1 0 (e.pages.map Sc)), (3, .row true 2 0 (e.sups.map Su.c))] 4 Q := by
    intro post
    induction post with
    | nil =>
      intro pre e Q hc hep hes hQ
      have hl : list.length = pre.length := by simp [hc]
      rw [eT0]
      refine .seq <| .seq <| .reg <| .mv rfl rfl <| .mv rfl rfl <| .len rfl rfl rfl <| .lssF rfl rfl rfl (by omega) <| .nil <| .condF rfl <| .exit rfl <| .seq <| .reg <| .aE rfl rfl rfl rfl <| .stA rfl rfl rfl rfl rfl rfl <| .nil <| .ret rfl hQ (.agg2 (by first | exact .rw (fun _ => rfl) | exact .ox rfl (fun _ => rfl)) (by first | exact .rw (fun _ => rfl) | exact .ox rfl (fun _ => rfl))) LeBs.refl
    | cons a post ih =>
      intro pre e Q hc hep hes hQ
      have hl : list.length = pre.length + post.length + 1 := by simp [hc]; omega
      have ha : list[pre.length]? = some a := by simp [hc]
      rw [eT0]
      refine .seq <| .seq <| .reg <| .mv rfl rfl <| .mv rfl rfl <| .len rfl rfl rfl <| .lssT rfl rfl rfl (by omega) <| .nil <| .condT rfl <| .skip <| .seq <| .block <| .seq <| .reg <| .mv rfl rfl <| .mv rfl rfl <| .ia rfl rfl rfl (by assumption) <| .aF rfl rfl rfl <| .new rfl <| .stA rfl rfl rfl rfl rfl rfl <| .nil <| .seq <| .seq <| .reg <| .fa rfl rfl <| .ldE rfl rfl rfl rfl <| .fa rfl rfl <| .ldE rfl rfl rfl rfl <| .len rfl rfl rfl <| .sub rfl rfl rfl (by omega) <| .c rfl rfl rfl (s_l1In a.at_ 0 ((e.pages.length : Int) - 1)) .refl rfl rfl rfl (by decide) <| .bB (fun h2 => ?_) (fun h2 => ?_)
      · have h2' : 0 ≤ a.at_ ∧ a.at_ ≤ (e.pages.length : Int) - 1 := of_decide_eq_true h2
        obtain ⟨s0, hs0⟩ : ∃ s0, e.pages[a.at_.toNat]? = some s0 := ⟨_, getD_at (by omega)⟩
        refine .nil <| .condT rfl <| .reg <| .fa rfl rfl <| .ldE rfl rfl rfl rfl <| .fa rfl rfl <| .ldE rfl rfl rfl rfl <| .fa rfl rfl <| .ldE rfl rfl rfl rfl <| .iaRI rfl rfl rfl rfl (by omega) (by rw [List.length_map]; omega) <| .stR rfl rfl rfl rfl rfl rfl rfl (by rw [List.getElem?_map, hs0]; rfl) (of_decide_eq_true rfl) rfl <| .nil <| .seq <| .reg <| .fa rfl rfl <| .ldE rfl rfl rfl rfl <| .eqlF rfl rfl rfl (by omega) <| .mv rfl rfl <| .g rfl rfl <| .fa rfl rfl <| .g rfl rfl <| .ldE rfl rfl rfl rfl <| .g rfl rfl <| .eqlF rfl rfl rfl (by omega) <| .pickF rfl rfl rfl <| .mv rfl rfl <| .gs rfl rfl rfl <| .gs rfl rfl rfl <| .gs rfl rfl rfl <| .gs rfl rfl rfl <| .gs rfl rfl rfl <| .gs rfl rfl rfl <| .gs rfl rfl rfl <| .pickF rfl rfl rfl <| .nil <| .condF rfl <| .skip <| .inBlock <| .reg <| .mv rfl rfl <| .add rfl rfl rfl (by omega) <| .mv rfl rfl <| .nil <| hT0 <| ?_
        exact RA.wr [_, _, _, _] (ih (pre ++ [a]) (⟨e.pages.set a.at_.toNat a.text, e.sups⟩) _ (by simp [hc]) (by simp; omega) (by simp; omega) (by rw [doAll, List.foldl_cons, wr1_p h2'] at hQ; exact hQ)) nT0 (hm := by exact .b rfl rfl (.same rfl) <| .b rfl rfl (.box2 (.row rfl) (.row rfl)) <| .x rfl rfl (by rw [List.map_set]; rfl) (fun _ => rfl) <| .r rfl rfl (fun _ => rfl) .nil)
      · have h2' : ¬ (0 ≤ a.at_ ∧ a.at_ ≤ (e.pages.length : Int) - 1) := of_decide_eq_false h2
        refine .nil <| .condF rfl <| .skip <| .seq <| .reg <| .fa rfl rfl <| .ldE rfl rfl rfl rfl <| .eql rfl rfl rfl (fun h5 => ?_) (fun h5 => ?_)
        · refine .mv rfl rfl <| .gs rfl rfl rfl <| .gs rfl rfl rfl <| .gs rfl rfl rfl <| .pickT rfl rfl rfl <| .mv rfl rfl <| .g rfl rfl <| .fa rfl rfl <| .g rfl rfl <| .ldE rfl rfl rfl rfl <| .g rfl rfl <| .sub rfl rfl rfl (by omega) <| .g rfl rfl <| .fa rfl rfl <| .g rfl rfl <| .ldE rfl rfl rfl rfl <| .g rfl rfl <| .len rfl rfl rfl <| .g rfl rfl <| .lss rfl rfl rfl (fun h6 => ?_) (fun h6 => ?_)
          · obtain ⟨s0, hs0⟩ : ∃ s0, e.sups[(-1 - a.at_).toNat]? = some s0 := ⟨_, getD_at (by omega)⟩
            refine .pickT rfl rfl rfl <| .nil <| .condT rfl <| .reg <| .fa rfl rfl <| .ldE rfl rfl rfl rfl <| .fa rfl rfl <| .ldE rfl rfl rfl rfl <| .sub rfl rfl rfl (by omega) <| .fa rfl rfl <| .aQ rfl rfl rfl rfl (of_decide_eq_true rfl) <| .iaRI rfl rfl rfl rfl (by omega) (by rw [List.length_map]; omega) <| .stR rfl rfl rfl rfl rfl rfl rfl (by rw [List.getElem?_map, hs0]; rfl) (of_decide_eq_true rfl) rfl <| .nil <| .inBlock <| .reg <| .mv rfl rfl <| .add rfl rfl rfl (by omega) <| .mv rfl rfl <| .nil <| hT0 <| ?_
            exact RA.wr [_, _, _, _] (ih (pre ++ [a]) (⟨e.pages, e.sups.set (-1 - a.at_).toNat a.sup⟩) _ (by simp [hc]) (by simp; omega) (by simp; omega) (by rw [doAll, List.foldl_cons, wr1_s (by omega) (by omega)] at hQ; exact hQ)) nT0 (hm := by exact .b rfl rfl (.same rfl) <| .b rfl rfl (.box2 (.row rfl) (.row rfl)) <| .r rfl rfl (fun _ => rfl) <| .x rfl rfl (by rw [List.map_set]; rfl) (fun _ => rfl) .nil)
          · refine .pickT rfl rfl rfl <| .nil <| .condF rfl <| .skip <| .inBlock <| .reg <| .mv rfl rfl <| .add rfl rfl rfl (by omega) <| .mv rfl rfl <| .nil <| hT0 <| ?_
            exact RA.wr [_, _, _, _] (ih (pre ++ [a]) e _ (by simp [hc]) hep hes (by rw [doAll, List.foldl_cons, wr1_n (by omega) (by omega)] at hQ; exact hQ)) nT0 (hm := by exact .b rfl rfl (.same rfl) <| .b rfl rfl (.box2 (.row rfl) (.row rfl)) <| .r rfl rfl (fun _ => rfl) <| .r rfl rfl (fun _ => rfl) .nil)
        · refine .mv rfl rfl <| .g rfl rfl <| .fa rfl rfl <| .g rfl rfl <| .ldE rfl rfl rfl rfl <| .g rfl rfl <| .eql rfl rfl rfl (fun h7 => ?_) (fun h7 => ?_)
          · refine .pickF rfl rfl rfl <| .mv rfl rfl <| .g rfl rfl <| .fa rfl rfl <| .g rfl rfl <| .ldE rfl rfl rfl rfl <| .g rfl rfl <| .sub rfl rfl rfl (by omega) <| .g rfl rfl <| .fa rfl rfl <| .g rfl rfl <| .ldE rfl rfl rfl rfl <| .g rfl rfl <| .len rfl rfl rfl <| .g rfl rfl <| .lss rfl rfl rfl (fun h8 => ?_) (fun h8 => ?_)
            · obtain ⟨s0, hs0⟩ : ∃ s0, e.sups[(-1 - a.at_).toNat]? = some s0 := ⟨_, getD_at (by omega)⟩
              refine .pickT rfl rfl rfl <| .nil <| .condT rfl <| .reg <| .fa rfl rfl <| .ldE rfl rfl rfl rfl <| .fa rfl rfl <| .ldE rfl rfl rfl rfl <| .sub rfl rfl rfl (by omega) <| .fa rfl rfl <| .aQ rfl rfl rfl rfl (of_decide_eq_true rfl) <| .iaRI rfl rfl rfl rfl (by omega) (by rw [List.length_map]; omega) <| .stR rfl rfl rfl rfl rfl rfl rfl (by rw [List.getElem?_map, hs0]; rfl) (of_decide_eq_true rfl) rfl <| .nil <| .inBlock <| .reg <| .mv rfl rfl <| .add rfl rfl rfl (by omega) <| .mv rfl rfl <| .nil <| hT0 <| ?_
              exact RA.wr [_, _, _, _] (ih (pre ++ [a]) (⟨e.pages, e.sups.set (-1 - a.at_).toNat a.sup⟩) _ (by simp [hc]) (by simp; omega) (by simp; omega) (by rw [doAll, List.foldl_cons, wr1_s (by omega) (by omega)] at hQ; exact hQ)) nT0 (hm := by exact .b rfl rfl (.same rfl) <| .b rfl rfl (.box2 (.row rfl) (.row rfl)) <| .r rfl rfl (fun _ => rfl) <| .x rfl rfl (by rw [List.map_set]; rfl) (fun _ => rfl) .nil)
            · refine .pickT rfl rfl rfl <| .nil <| .condF rfl <| .skip <| .inBlock <| .reg <| .mv rfl rfl <| .add rfl rfl rfl (by omega) <| .mv rfl rfl <| .nil <| hT0 <| ?_
              exact RA.wr [_, _, _, _] (ih (pre ++ [a]) e _ (by simp [hc]) hep hes (by rw [doAll, List.foldl_cons, wr1_n (by omega) (by omega)] at hQ; exact hQ)) nT0 (hm := by exact .b rfl rfl (.same rfl) <| .b rfl rfl (.box2 (.row rfl) (.row rfl)) <| .r rfl rfl (fun _ => rfl) <| .r rfl rfl (fun _ => rfl) .nil)
          · refine .pickF rfl rfl rfl <| .mv rfl rfl <| .gs rfl rfl rfl <| .gs rfl rfl rfl <| .gs rfl rfl rfl <| .gs rfl rfl rfl <| .gs rfl rfl rfl <| .gs rfl rfl rfl <| .gs rfl rfl rfl <| .pickF rfl rfl rfl <| .nil <| .condF rfl <| .skip <| .inBlock <| .reg <| .mv rfl rfl <| .add rfl rfl rfl (by omega) <| .mv rfl rfl <| .nil <| hT0 <| ?_
            exact RA.wr [_, _, _, _] (ih (pre ++ [a]) e _ (by simp [hc]) hep hes (by rw [doAll, List.foldl_cons, wr1_n (by omega) (by omega)] at hQ; exact hQ)) nT0 (hm := by exact .b rfl rfl (.same rfl) <| .b rfl rfl (.box2 (.row rfl) (.row rfl)) <| .r rfl rfl (fun _ => rfl) <| .r rfl rfl (fun _ => rfl) .nil)
  exact RA.wr [_, _, _, _] (L0 list [] d _ rfl hp hs hQ) nT0 (hm := by exact .b rfl rfl (.same rfl) <| .b rfl rfl (.box2 (.row rfl) (.row rfl)) <| .r rfl rfl (fun _ => rfl) <| .r rfl rfl (fun _ => rfl) .nil)
theorem i_write (d : Dk) (w : Wr) (hp : d.pages.length ≤ 1000) (hs : d.sups.length ≤ 1000) (hw : w.ok) : RF Y 83 [.obx [.own true 1 0 (d.pages.map Sc), .own true 2 0 (d.sups.map Su.c)] 0, .agg (Wr.c w)] (.tup []) [.obx [.own true 1 0 ((wr1 d w).pages.map Sc), .own true 2 0 ((wr1 d w).sups.map Su.c)] 0] := by
  refine RF.s2 rfl rfl rfl fun Q hQ => ?_
  have hw1 := hw.1
  have hw2 := hw.2.1
  refine .seq <| .reg <| .box rfl rfl rfl <| .nil <| .seq <| .reg <| .fa rfl rfl <| .ldE rfl rfl rfl rfl <| .sub rfl rfl rfl (by omega) <| .mv rfl rfl <| .nil <| .block <| .seq <| .regD <| .fa rfl rfl <| .ldE rfl rfl rfl rfl <| .mv rfl rfl <| .nc rfl rfl <| .fa rfl rfl <| .ldE rfl rfl rfl rfl <| .len rfl rfl rfl <| .sub rfl rfl rfl (by omega) <| .c rfl rfl rfl (i_within w.at_ 0 ((d.pages.length : Int) - 1)) .refl rfl rfl rfl (by decide) <| .bB (fun h1 => ?_) (fun h1 => ?_)
  · have h1' : 0 ≤ w.at_ ∧ w.at_ ≤ (d.pages.length : Int) - 1 := of_decide_eq_true h1
    obtain ⟨s0, hs0⟩ : ∃ s0, d.pages[w.at_.toNat]? = some s0 := ⟨_, getD_at (by omega)⟩
    rw [wr1_p h1'] at hQ
    refine .mv rfl rfl <| .nil (by kernel_rfl) <| .condT rfl <| .regD <| .mv rfl rfl <| .nc rfl rfl <| .fa rfl rfl <| .ldE rfl rfl rfl rfl <| .fa rfl rfl <| .ldE rfl rfl rfl rfl <| .fa rfl rfl <| .ldE rfl rfl rfl rfl <| .iaRI rfl rfl rfl rfl (by omega) (by rw [List.length_map]; omega) <| .stR rfl rfl rfl rfl rfl rfl rfl (by rw [List.getElem?_map, hs0]; rfl) (of_decide_eq_true rfl) rfl <| .nil (by kernel_rfl) <| .inBlock <| .done rfl hQ .r (.c (.obx rfl (pairC (by first | exact .rw (fun _ => rfl) | exact .ox (by rw [List.map_set]; rfl) (fun _ => rfl)) (pair1 (by first | exact .rw (fun _ => rfl) | exact .ox (by rw [List.map_set]; rfl) (fun _ => rfl))))) .n)
  · have h1' : ¬ (0 ≤ w.at_ ∧ w.at_ ≤ (d.pages.length : Int) - 1) := of_decide_eq_false h1
    refine .mv rfl rfl <| .nil (by kernel_rfl) <| .condF rfl <| .seq <| .reg <| .fa rfl rfl <| .ldE rfl rfl rfl rfl <| .eql rfl rfl rfl (fun h2 => ?_) (fun h2 => ?_)
    · refine .mv rfl rfl <| .gs rfl rfl rfl <| .gs rfl rfl rfl <| .gs rfl rfl rfl <| .pickT rfl rfl rfl <| .mv rfl rfl <| .g rfl rfl <| .mv rfl rfl <| .g rfl rfl <| .mv rfl rfl <| .g rfl rfl <| .nc rfl rfl <| .g rfl rfl <| .fa rfl rfl <| .g rfl rfl <| .ldE rfl rfl rfl rfl <| .g rfl rfl <| .len rfl rfl rfl <| .g rfl rfl <| .lss rfl rfl rfl (fun h3 => ?_) (fun h3 => ?_)
      · obtain ⟨s0, hs0⟩ : ∃ s0, d.sups[(-1 - w.at_).toNat]? = some s0 := ⟨_, getD_at (by omega)⟩
        rw [wr1_s (by omega) (by omega)] at hQ
        refine .pickT rfl rfl rfl <| .mv rfl rfl <| .nil <| .condT rfl <| .regD <| .mv rfl rfl <| .nc rfl rfl <| .fa rfl rfl <| .ldE rfl rfl rfl rfl <| .mv rfl rfl <| .fa rfl rfl <| .aQ rfl rfl rfl rfl (of_decide_eq_true rfl) <| .iaRI rfl rfl rfl rfl (by omega) (by rw [List.length_map]; omega) <| .stR rfl rfl rfl rfl rfl rfl rfl (by rw [List.getElem?_map, hs0]; rfl) (of_decide_eq_true rfl) rfl <| .nil (by kernel_rfl) <| .inBlock <| .done rfl hQ .r (.c (.obx rfl (pairC (by first | exact .rw (fun _ => rfl) | exact .ox (by rw [List.map_set]; rfl) (fun _ => rfl)) (pair1 (by first | exact .rw (fun _ => rfl) | exact .ox (by rw [List.map_set]; rfl) (fun _ => rfl))))) .n)
      · rw [wr1_n (by omega) (by omega)] at hQ
        refine .pickT rfl rfl rfl <| .mv rfl rfl <| .nil <| .condF rfl <| .skip <| .inBlock <| .done rfl hQ .r (.c (.obx rfl (pairC (by first | exact .rw (fun _ => rfl) | exact .ox (by rw [List.map_set]; rfl) (fun _ => rfl)) (pair1 (by first | exact .rw (fun _ => rfl) | exact .ox (by rw [List.map_set]; rfl) (fun _ => rfl))))) .n)
    · refine .mv rfl rfl <| .g rfl rfl <| .fa rfl rfl <| .g rfl rfl <| .ldE rfl rfl rfl rfl <| .g rfl rfl <| .eql rfl rfl rfl (fun h4 => ?_) (fun h4 => ?_)
      · refine .pickF rfl rfl rfl <| .mv rfl rfl <| .g rfl rfl <| .mv rfl rfl <| .g rfl rfl <| .mv rfl rfl <| .g rfl rfl <| .nc rfl rfl <| .g rfl rfl <| .fa rfl rfl <| .g rfl rfl <| .ldE rfl rfl rfl rfl <| .g rfl rfl <| .len rfl rfl rfl <| .g rfl rfl <| .lss rfl rfl rfl (fun h5 => ?_) (fun h5 => ?_)
        · obtain ⟨s0, hs0⟩ : ∃ s0, d.sups[(-1 - w.at_).toNat]? = some s0 := ⟨_, getD_at (by omega)⟩
          rw [wr1_s (by omega) (by omega)] at hQ
          refine .pickT rfl rfl rfl <| .mv rfl rfl <| .nil <| .condT rfl <| .regD <| .mv rfl rfl <| .nc rfl rfl <| .fa rfl rfl <| .ldE rfl rfl rfl rfl <| .mv rfl rfl <| .fa rfl rfl <| .aQ rfl rfl rfl rfl (of_decide_eq_true rfl) <| .iaRI rfl rfl rfl rfl (by omega) (by rw [List.length_map]; omega) <| .stR rfl rfl rfl rfl rfl rfl rfl (by rw [List.getElem?_map, hs0]; rfl) (of_decide_eq_true rfl) rfl <| .nil (by kernel_rfl) <| .inBlock <| .done rfl hQ .r (.c (.obx rfl (pairC (by first | exact .rw (fun _ => rfl) | exact .ox (by rw [List.map_set]; rfl) (fun _ => rfl)) (pair1 (by first | exact .rw (fun _ => rfl) | exact .ox (by rw [List.map_set]; rfl) (fun _ => rfl))))) .n)
        · rw [wr1_n (by omega) (by omega)] at hQ
          refine .pickT rfl rfl rfl <| .mv rfl rfl <| .nil <| .condF rfl <| .skip <| .inBlock <| .done rfl hQ .r (.c (.obx rfl (pairC (by first | exact .rw (fun _ => rfl) | exact .ox (by rw [List.map_set]; rfl) (fun _ => rfl)) (pair1 (by first | exact .rw (fun _ => rfl) | exact .ox (by rw [List.map_set]; rfl) (fun _ => rfl))))) .n)
      · rw [wr1_n (by omega) (by omega)] at hQ
        refine .pickF rfl rfl rfl <| .mv rfl rfl <| .gs rfl rfl rfl <| .gs rfl rfl rfl <| .gs rfl rfl rfl <| .gs rfl rfl rfl <| .gs rfl rfl rfl <| .gs rfl rfl rfl <| .gs rfl rfl rfl <| .pickF rfl rfl rfl <| .mv rfl rfl <| .nil <| .condF rfl <| .skip <| .inBlock <| .done rfl hQ .r (.c (.obx rfl (pairC (by first | exact .rw (fun _ => rfl) | exact .ox (by rw [List.map_set]; rfl) (fun _ => rfl)) (pair1 (by first | exact .rw (fun _ => rfl) | exact .ox (by rw [List.map_set]; rfl) (fun _ => rfl))))) .n)
end Go.Proofs.Ytjjocahgbmibeaa

namespace Go.Proofs.Ytjjocahgbmibeaa
open Go.Eng
set_option maxRecDepth 4000
set_option linter.unusedSimpArgs false
set_option linter.unusedVariables false
theorem backs_d {n : Nat} {m : Mem} {md : List Bool} {vs : List AV} {b : AV} {id es es' mc mc' : Nat} {fl fl' : Bool} {xs ys : List (List AV)} (hmd : md = [true, false]) (has : vs = [.elt id 0 0, b]) : backs n m md vs [.obx [.own fl es mc xs, .own fl' es' mc' ys] 0] = some ([(n, .row fl es mc xs), (n + 1, .row fl' es' mc' ys), (id, .box [.row n, .row (n + 1)])], n + 1 + 1) := by
  subst hmd has
  rfl
theorem i_Do (d : Dk) (list : List Wr) (hp : d.pages.length ≤ 1000) (hs : d.sups.length ≤ 1000) (hll : list.length ≤ 1000000) (hok : Lok list) : RF Y 35 [.agg d.e, .fro true 4 (list.map Wr.c)] ((doAll d list).o) [] := by
  refine RF.s2 rfl rfl rfl fun Q hQ => ?_
  refine .seq <| .reg <| .box rfl rfl rfl <| .new rfl <| .nil <| .seq <| .reg <| .aE rfl rfl rfl rfl <| .c rfl rfl rfl (i_copyDisk d hp hs) .refl rfl rfl rfl (by decide) <| .new rfl <| .stA rfl rfl rfl rfl rfl rfl <| .nil <| .seq <| .seq <| .reg <| .mv rfl rfl <| .len rfl rfl rfl <| .mv rfl rfl <| .nil <| .block <| ?_
  refine RA.loopI fun T0 hT0 nT0 eT0 => ?_
  have L0 : ∀ (post pre : List Wr) (e : Dk) (Q : Qst), list = pre ++ post → e.pages.length ≤ 1000 → e.sups.length ≤ 1000 → Q (doAll e post).o [] → RA Y a35 T0 [(4, .elt 0 0 0), (5, .elt 1 0 0), (10, .fro true 4 (list.map Wr.c)), (11, i64 list.length), (12, i64 pre.length)] [(0, .box [.emp, .emp]), (1, .box [.row 2, .row 3]), (2, .row true 1 0 (e.pages.map Sc)), (3, .row true 2 0 (e.sups.map Su.c))] 4 Q := by
    intro post
    induction post with
    | nil =>
      intro pre e Q hc hep hes hQ
      have hl : list.length = pre.length := by simp [hc]
      rw [eT0]
      refine .seq <| .reg <| .lssF rfl rfl rfl (by omega) <| .nil <| .seq <| .condF rfl <| .exit rfl <| .seq <| .reg <| .aE rfl rfl rfl rfl <| .stA rfl rfl rfl rfl rfl rfl <| .nil <| .ret rfl hQ (.agg2 (by first | exact .rw (fun _ => rfl) | exact .ox rfl (fun _ => rfl)) (by first | exact .rw (fun _ => rfl) | exact .ox rfl (fun _ => rfl))) LeBs.refl
    | cons a post ih =>
      intro pre e Q hc hep hes hQ
      have hl : list.length = pre.length + post.length + 1 := by simp [hc]; omega
      have ha : list[pre.length]? = some a := by simp [hc]
      have hwl := wr1_len e a
      rw [eT0]
      refine .seq <| .reg <| .lssT rfl rfl rfl (by omega) <| .nil <| .seq <| .condT rfl <| .skip <| .seq <| .block <| .seq <| .reg <| .ia rfl rfl rfl (by assumption) <| .aF rfl rfl rfl <| .new rfl <| .stA rfl rfl rfl rfl rfl rfl <| .nil <| .reg <| .aE rfl rfl rfl rfl <| .cM rfl rfl rfl (i_write e a hep hes (hok a (by simp [hc]))) .refl (backs_d rfl rfl) rfl (by decide) <| .nil <| .inBlock <| .reg <| .add rfl rfl rfl (by omega) <| .mv rfl rfl <| .nil <| hT0 <| ?_
      exact RA.wr [_, _, _, _] (ih (pre ++ [a]) (wr1 e a) _ (by simp [hc]) (by omega) (by omega) (by rw [doAll, List.foldl_cons] at hQ; exact hQ)) nT0 (hm := by exact .b rfl rfl (.same rfl) <| .b rfl rfl (.box2 (.row rfl) (.row rfl)) <| .r rfl rfl (fun _ => rfl) <| .r rfl rfl (fun _ => rfl) .nil)
  exact RA.wr [_, _, _, _] (L0 list [] d _ rfl hp hs hQ) nT0 (hm := by exact .b rfl rfl (.same rfl) <| .b rfl rfl (.box2 (.row rfl) (.row rfl)) <| .r rfl rfl (fun _ => rfl) <| .r rfl rfl (fun _ => rfl) .nil)
theorem i_Some (d : Dk) (list : List Wr) (which : List Bool) (hp : d.pages.length ≤ 1000) (hs : d.sups.length ≤ 1000) (hll : list.length ≤ 1000000) (hwl : which.length ≤ 1000000) (hok : Lok list) : RF Y 38 [.agg d.e, .fro true 4 (list.map Wr.c), .fro true 1 (which.map Oc)] ((doAll d (sel list which)).o) [] := by
  refine RF.s3 rfl rfl rfl fun Q hQ => ?_
  refine .seq <| .reg <| .box rfl rfl rfl <| .new rfl <| .nil <| .seq <| .reg <| .aE rfl rfl rfl rfl <| .c rfl rfl rfl (i_copyDisk d hp hs) .refl rfl rfl rfl (by decide) <| .new rfl <| .stA rfl rfl rfl rfl rfl rfl <| .nil <| .seq <| .seq <| .reg <| .mv rfl rfl <| .len rfl rfl rfl <| .mv rfl rfl <| .nil <| .block <| ?_
  refine RA.loopI fun T0 hT0 nT0 eT0 => ?_
  have L0 : ∀ (post pre : List Wr) (e : Dk) (Q : Qst), list = pre ++ post → e.pages.length ≤ 1000 → e.sups.length ≤ 1000 → Q (doAll e (sel post (which.drop pre.length))).o [] → RA Y a38 T0 [(2, .fro true 1 (which.map Oc)), (6, .elt 0 0 0), (7, .elt 1 0 0), (12, .fro true 4 (list.map Wr.c)), (13, i64 list.length), (14, i64 pre.length)] [(0, .box [.emp, .emp]), (1, .box [.row 2, .row 3]), (2, .row true 1 0 (e.pages.map Sc)), (3, .row true 2 0 (e.sups.map Su.c))] 4 Q := by
    intro post
    induction post with
    | nil =>
      intro pre e Q hc hep hes hQ
      have hl : list.length = pre.length := by simp [hc]
      rw [show sel [] (which.drop pre.length) = [] by cases which.drop pre.length <;> rfl] at hQ
      rw [eT0]
      refine .seq <| .reg <| .lssF rfl rfl rfl (by omega) <| .nil <| .seq <| .condF rfl <| .exit rfl <| .seq <| .reg <| .aE rfl rfl rfl rfl <| .stA rfl rfl rfl rfl rfl rfl <| .nil <| .ret rfl hQ (.agg2 (by first | exact .rw (fun _ => rfl) | exact .ox rfl (fun _ => rfl)) (by first | exact .rw (fun _ => rfl) | exact .ox rfl (fun _ => rfl))) LeBs.refl
    | cons a post ih =>
      intro pre e Q hc hep hes hQ
      have hl : list.length = pre.length + post.length + 1 := by simp [hc]; omega
      have ha : list[pre.length]? = some a := by simp [hc]
      have hwl := wr1_len e a
      rw [eT0]
      refine .seq <| .reg <| .lssT rfl rfl rfl (by omega) <| .nil <| .seq <| .condT rfl <| .skip <| .seq <| .block <| .seq <| .reg <| .mv rfl rfl <| .ia rfl rfl rfl (by assumption) <| .aF rfl rfl rfl <| .new rfl <| .mv rfl rfl <| .stA rfl rfl rfl rfl rfl rfl <| .nil <| .seq <| .reg <| .mv rfl rfl <| .mv rfl rfl <| .len rfl rfl rfl <| .lss rfl rfl rfl (fun h2 => ?_) (fun h2 => ?_)
      · obtain ⟨b0, hb0⟩ : ∃ b0, which[pre.length]? = some b0 := ⟨_, getD_at (by omega)⟩
        have hsa := sel_at (post := post) (a := a) hb0
        refine .mv rfl rfl <| .g rfl rfl <| .mv rfl rfl <| .g rfl rfl <| .mv rfl rfl <| .g rfl rfl <| .ia rfl rfl rfl (by assumption) <| .g rfl rfl <| .ldF rfl rfl rfl <| .bB (fun h3 => ?_) (fun h3 => ?_)
        · refine .pickT rfl rfl rfl <| .nil <| .condT rfl <| .reg <| .aE rfl rfl rfl rfl <| .cM rfl rfl rfl (i_write e a hep hes (hok a (by simp [hc]))) .refl (backs_d rfl rfl) rfl (by decide) <| .nil <| .inBlock <| .reg <| .add rfl rfl rfl (by omega) <| .mv rfl rfl <| .nil <| hT0 <| ?_
          exact RA.wr [_, _, _, _] (ih (pre ++ [a]) (wr1 e a) _ (by simp [hc]) (by omega) (by omega) (by rw [hsa, h3, if_pos rfl] at hQ; rw [show (pre ++ [a]).length = pre.length + 1 by simp]; exact hQ)) nT0 (hm := by exact .b rfl rfl (.same rfl) <| .b rfl rfl (.box2 (.row rfl) (.row rfl)) <| .r rfl rfl (fun _ => rfl) <| .r rfl rfl (fun _ => rfl) .nil)
        · refine .pickT rfl rfl rfl <| .nil <| .condF rfl <| .skip <| .inBlock <| .reg <| .add rfl rfl rfl (by omega) <| .mv rfl rfl <| .nil <| hT0 <| ?_
          exact RA.wr [_, _, _, _] (ih (pre ++ [a]) e _ (by simp [hc]) hep hes (by rw [hsa, h3, if_neg (by decide)] at hQ; rw [show (pre ++ [a]).length = pre.length + 1 by simp]; exact hQ)) nT0 (hm := by exact .b rfl rfl (.same rfl) <| .b rfl rfl (.box2 (.row rfl) (.row rfl)) <| .r rfl rfl (fun _ => rfl) <| .r rfl rfl (fun _ => rfl) .nil)
      · rw [sel_out (l := a :: post) (wh := which) (n := pre.length) (by omega)] at hQ
        refine .mv rfl rfl <| .gs rfl rfl rfl <| .gs rfl rfl rfl <| .gs rfl rfl rfl <| .gs rfl rfl rfl <| .pickF rfl rfl rfl <| .nil <| .condF rfl <| .skip <| .inBlock <| .reg <| .add rfl rfl rfl (by omega) <| .mv rfl rfl <| .nil <| hT0 <| ?_
        exact RA.wr [_, _, _, _] (ih (pre ++ [a]) e _ (by simp [hc]) hep hes (by rw [sel_out (by simp; omega)]; exact hQ)) nT0 (hm := by exact .b rfl rfl (.same rfl) <| .b rfl rfl (.box2 (.row rfl) (.row rfl)) <| .r rfl rfl (fun _ => rfl) <| .r rfl rfl (fun _ => rfl) .nil)
  exact RA.wr [_, _, _, _] (L0 list [] d _ rfl hp hs hQ) nT0 (hm := by exact .b rfl rfl (.same rfl) <| .b rfl rfl (.box2 (.row rfl) (.row rfl)) <| .r rfl rfl (fun _ => rfl) <| .r rfl rfl (fun _ => rfl) .nil)
theorem s_Some (d : Dk) (list : List Wr) (which : List Bool) (hp : d.pages.length ≤ 1000) (hs : d.sups.length ≤ 1000) (hll : list.length ≤ 1000000) (hwl : which.length ≤ 1000000) : RF Y 39 [.agg d.e, .fro true 4 (list.map Wr.c), .fro true 1 (which.map Oc)] ((doAll d (sel list which)).o) [] := by
  refine RF.s3 rfl rfl rfl fun Q hQ => ?_
  refine .seq <| .reg <| .box rfl rfl rfl <| .new rfl <| .nil <| .seq <| .reg <| .mv rfl rfl <| .mv rfl rfl <| .nil <| .seq <| .seq <| .reg <| .mv rfl rfl <| .nil <| .block <| ?_
  refine RA.loopI fun T0 hT0 nT0 eT0 => ?_
  have L0 : ∀ (post pre : List Wr) (out : List Wr) (Q : Qst), list = pre ++ post → out.length ≤ pre.length → Q (doAll d (out ++ sel post (which.drop pre.length))).o [] → RA Y a39 T0 [(1, .fro true 4 (list.map Wr.c)), (2, .fro true 1 (which.map Oc)), (3, .elt 0 0 0), (6, .elt 1 0 0), (7, .row 2), (8, i64 pre.length)] [(0, .box d.e), (1, .box [.emp, .emp]), (2, .row true 4 0 (out.map Wr.c))] 3 Q := by
    intro post
    induction post with
    | nil =>
      intro pre out Q hc ho hQ
      have hl : list.length = pre.length := by simp [hc]
      rw [show sel [] (which.drop pre.length) = [] by cases which.drop pre.length <;> rfl, List.append_nil] at hQ
      rw [eT0]
      refine .seq <| .seq <| .reg <| .mv rfl rfl <| .mv rfl rfl <| .len rfl rfl rfl <| .lssF rfl rfl rfl (by omega) <| .mv rfl rfl <| .gs rfl rfl rfl <| .gs rfl rfl rfl <| .gs rfl rfl rfl <| .gs rfl rfl rfl <| .pickF rfl rfl rfl <| .nil <| .condF rfl <| .exit rfl <| .seq <| .reg <| .aE rfl rfl rfl rfl <| .mv rfl rfl <| .c rfl rfl rfl (s_Do d out hp hs (by omega)) (.c .r (.c (.fz (.rw (fun h => h))) .n)) rfl rfl rfl (by decide) <| .stA rfl rfl rfl rfl rfl rfl <| .nil <| .ret rfl hQ (.agg2 (by first | exact .rw (fun _ => rfl) | exact .ox rfl (fun _ => rfl)) (by first | exact .rw (fun _ => rfl) | exact .ox rfl (fun _ => rfl))) LeBs.refl
    | cons a post ih =>
      intro pre out Q hc ho hQ
      have hl : list.length = pre.length + post.length + 1 := by simp [hc]; omega
      have ha : list[pre.length]? = some a := by simp [hc]
      rw [eT0]
      refine .seq <| .seq <| .reg <| .mv rfl rfl <| .mv rfl rfl <| .len rfl rfl rfl <| .lssT rfl rfl rfl (by omega) <| .mv rfl rfl <| .g rfl rfl <| .mv rfl rfl <| .g rfl rfl <| .mv rfl rfl <| .g rfl rfl <| .len rfl rfl rfl <| .g rfl rfl <| .lss rfl rfl rfl (fun h2 => ?_) (fun h2 => ?_)
      · obtain ⟨b0, hb0⟩ : ∃ b0, which[pre.length]? = some b0 := ⟨_, getD_at (by omega)⟩
        have hsa := sel_at (post := post) (a := a) hb0
        refine .pickT rfl rfl rfl <| .nil <| .condT rfl <| .skip <| .seq <| .block <| .seq <| .reg <| .mv rfl rfl <| .mv rfl rfl <| .ia rfl rfl rfl (by assumption) <| .ldF rfl rfl rfl <| .bB (fun h3 => ?_) (fun h3 => ?_)
        · refine .nil <| .condT rfl <| .reg <| .mv rfl rfl <| .mv rfl rfl <| .mv rfl rfl <| .ia rfl rfl rfl (by assumption) <| .aF rfl rfl rfl <| .row1P rfl rfl rfl rfl rfl rfl rfl rfl <| .ap rfl rfl rfl rfl rfl (by simp; omega) (by decide) <| .mv rfl rfl <| .nil <| .inBlock <| .reg <| .mv rfl rfl <| .add rfl rfl rfl (by omega) <| .mv rfl rfl <| .nil <| hT0 <| ?_
          exact RA.wq [_, _, _] (ih (pre ++ [a]) (out ++ [a]) _ (by simp [hc]) (by simp; omega) (by rw [hsa, h3, if_pos rfl] at hQ; rw [List.append_assoc, List.singleton_append]; rw [show (pre ++ [a]).length = pre.length + 1 by simp]; exact hQ)) nT0
        · refine .nil <| .condF rfl <| .skip <| .inBlock <| .reg <| .mv rfl rfl <| .add rfl rfl rfl (by omega) <| .mv rfl rfl <| .nil <| hT0 <| ?_
          exact RA.wq [_, _, _] (ih (pre ++ [a]) out _ (by simp [hc]) (by simp; omega) (by rw [hsa, h3, if_neg (by decide)] at hQ; rw [show (pre ++ [a]).length = pre.length + 1 by simp]; exact hQ)) nT0
      · rw [sel_out (l := a :: post) (wh := which) (n := pre.length) (by omega)] at hQ
        rw [List.append_nil] at hQ
        refine .pickT rfl rfl rfl <| .nil <| .condF rfl <| .exit rfl <| .seq <| .reg <| .aE rfl rfl rfl rfl <| .mv rfl rfl <| .c rfl rfl rfl (s_Do d out hp hs (by omega)) (.c .r (.c (.fz (.rw (fun h => h))) .n)) rfl rfl rfl (by decide) <| .stA rfl rfl rfl rfl rfl rfl <| .nil <| .ret rfl hQ (.agg2 (by first | exact .rw (fun _ => rfl) | exact .ox rfl (fun _ => rfl)) (by first | exact .rw (fun _ => rfl) | exact .ox rfl (fun _ => rfl))) LeBs.refl
  refine RA.freshV 7 4 nT0 rfl ?_
  exact RA.wr [_, _, _] (L0 list [] [] _ rfl (Nat.zero_le _) hQ) nT0 (hm := by exact .b rfl rfl (.same rfl) <| .b rfl rfl (.same rfl) <| .x rfl rfl rfl (fun _ => rfl) .nil)
def Dk.new : Dk := ⟨List.replicate 200 ByteArray.empty, List.replicate 2 ⟨0, 0⟩⟩
theorem Dk.new_B : Dk.new.B := by
  refine ⟨by simp [Dk.new], by simp [Dk.new], fun p hp => ?_⟩
  obtain ⟨_, rfl⟩ := List.mem_replicate.1 hp
  exact Nat.zero_le _
def Dk.F (d : Dk) : Prop := d.B ∧ (d.pages.length = 200 ∧ d.sups.length = 2 ∨ d.pages = [] ∧ d.sups = [])
theorem Dk.F.do {d : Dk} (h : d.F) {l : List Wr} (hl : Lok l) : (doAll d l).F := by
  have h1 := doAll_len l d
  refine ⟨doAll_B hl h.1, ?_⟩
  rcases h.2 with ⟨a, b⟩ | ⟨a, b⟩
  · exact .inl ⟨h1.1.trans a, h1.2.trans b⟩
  · rw [a, b] at h1
    exact .inr ⟨List.eq_nil_of_length_eq_zero h1.1, List.eq_nil_of_length_eq_zero h1.2⟩
theorem Dk.new_F : Dk.new.F := ⟨Dk.new_B, .inl ⟨by simp [Dk.new], by simp [Dk.new]⟩⟩
theorem Dk.nil_F : (Dk.mk [] []).F := ⟨⟨by simp, by simp, fun p hp => by simp at hp⟩, .inr ⟨rfl, rfl⟩⟩
theorem _root_.Go.Eng.RD.mkN {Y : EngSys} {fn : AFn} {ops rest : List AOper} {i : Nat} {tr : List (List Nat × List Nat)} {ps : List (Nat × Nat)} {k : List AItem} {env : Env'} {mem : Mem'} {next d : Nat} {Q : Qst} {es by_ n : Nat} {z : List AV} (h : ops = ⟨some d, .mk es by_ z (.c (i64 (n : Int))) (.c (i64 (n : Int))), none⟩ :: rest) (hn : n ≤ 1000000) (hb : by_ ≤ 1000) (hz : z.length = es) (hl : z.all AV.lit = true)
    (h' : RD Y fn rest (i + 1) (tr ++ [(touchOf (Eng.look mem) ((AOp.mk es by_ z (.c (i64 (n : Int))) (.c (i64 (n : Int))) : AOp AOpd).map (AOpd.get (E env))), [next + 16 * i])]) ps k ((d, .row (next + 16 * i)) :: env) ((next + 16 * i, .row true es n (List.replicate n z)) :: mem) next Q) : RD Y fn ops i tr ps k env mem next Q :=
  RD.u1 h (p := (next + 16 * i, .row true es n (List.replicate n z))) (by
    have h1 : by_ * n ≤ 140737488355328 := Nat.le_trans (Nat.mul_le_mul hb hn) (by decide)
    have h1' : (by_ : Int) * (n : Int) ≤ 140737488355328 := by
      have := Int.ofNat_le.2 h1
      rw [Int.natCast_mul] at this
      exact this
    have h2 : (n : Int) ≤ 9223372036854775807 := by omega
    show (if _ then _ else _) = _
    rw [if_pos ⟨by omega, by omega, h1', h2, hz, hl⟩]
    simp) h'
theorem s_DiskNew_x (t : Tr) (h : t.sz ≤ 10000) : RFx Y 185 [.agg t.e] (fun r o => ∃ (d : Dk) (ok : Bool), r = .tup [d.o, .b ok] ∧ o = [] ∧ d.F) := by
  refine RFx.s1 rfl rfl rfl ?_
  refine .seq <| .reg <| .box rfl rfl rfl <| .new rfl <| .mv rfl rfl <| .nil <| .seq <| .regD <| .mkN (n := 200) rfl (by decide) (by decide) rfl rfl <| .mkN (n := 2) rfl (by decide) (by decide) rfl rfl <| .build (cs := [_, _]) rfl rfl rfl <| .new rfl <| .stA rfl rfl rfl rfl rfl rfl <| .nil (by kernel_rfl) <| .seq <| .reg <| .aE rfl rfl rfl rfl <| .aE rfl rfl rfl rfl <| ?_
  obtain ⟨ls, ok, ⟨hok, hln⟩, R1⟩ := s_Plan Dk.new Dk.new_B t h
  refine .c rfl rfl rfl R1 (.c (.agg2 (.fz (.rw (fun h => h))) (.fz (.rw (fun h => h)))) (.c .r .n)) rfl rfl rfl (by decide) <| .mv rfl rfl <| .ex rfl rfl rfl <| .ex rfl rfl rfl <| .bB (fun h1 => ?_) (fun h1 => ?_)
  · refine .mv rfl rfl <| .mv rfl rfl <| .nil <| .seq <| .seq <| .reg <| .mv rfl rfl <| .notT rfl rfl <| .nil <| .condF rfl <| .skip <| .seq <| .reg <| .aE rfl rfl rfl rfl <| .mv rfl rfl <| .c rfl rfl rfl (s_Do Dk.new ls (by simp [Dk.new]) (by simp [Dk.new]) (by omega)) (.c (.agg2 (.fz (.rw (fun h => h))) (.fz (.rw (fun h => h)))) (.c (.fz (.rw (fun h => h))) .n)) rfl rfl rfl (by decide) <| .stA rfl rfl rfl rfl rfl rfl <| .mv rfl rfl <| .nil <| .ret rfl (by first | exact ⟨⟨[], []⟩, false, rfl, rfl, Dk.nil_F⟩ | exact ⟨doAll Dk.new ls, true, rfl, rfl, Dk.new_F.do hok⟩) (.tup2 (by first | exact .r | exact .agg2 .nilO .nilO) .r) LeBs.refl
  · refine .mv rfl rfl <| .mv rfl rfl <| .nil <| .seq <| .seq <| .reg <| .mv rfl rfl <| .notF rfl rfl <| .nil <| .condT rfl <| .seq <| .reg <| .build (cs := [_, _]) rfl rfl rfl <| .stA rfl rfl rfl rfl rfl rfl <| .mv rfl rfl <| .nil <| .ret rfl (by first | exact ⟨⟨[], []⟩, false, rfl, rfl, Dk.nil_F⟩ | exact ⟨doAll Dk.new ls, true, rfl, rfl, Dk.new_F.do hok⟩) (.tup2 (by first | exact .r | exact .agg2 .nilO .nilO) .r) LeBs.refl
theorem s_DiskNew (t : Tr) (h : t.sz ≤ 10000) : ∃ (d : Dk) (ok : Bool), (d.F) ∧ RF Y 185 [.agg t.e] (.tup [d.o, .b ok]) [] := by
  obtain ⟨r, o, ⟨d, ok, rfl, rfl, hp⟩, hr⟩ := s_DiskNew_x t h
  exact ⟨d, ok, hp, hr⟩
end Go.Proofs.Ytjjocahgbmibeaa
