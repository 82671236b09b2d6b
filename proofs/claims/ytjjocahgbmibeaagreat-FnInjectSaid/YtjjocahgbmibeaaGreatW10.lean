/- Walks: maps of the program's own. -/
import Derived.Test.YtjjocahgbmibeaaGreatA0
import Derived.Test.YtjjocahgbmibeaaGreatExt3
namespace Go.Proofs.YtjjocahgbmibeaaGreat
open Go.Eng
set_option maxRecDepth 4000
set_option linter.unusedSimpArgs false
set_option linter.unusedVariables false
theorem i_limited (n : Int) : RF Y 117 [i64 n] (i64 (clamp n)) [] := by
  refine RF.s1 rfl rfl rfl fun Q hQ => ?_
  refine .seq <| .reg <| .mv rfl rfl <| .nil <| .seq <| .reg <| .mv rfl rfl <| .p rfl rfl <| .p rfl rfl <| .mv rfl rfl <| .nil <| .ret rfl hQ (.ie (by unfold clamp; (repeat' split) <;> omega)) LeBs.refl
theorem _root_.Go.Eng.RO.eqnE {Y : EngSys} {fn : AFn} {ops rest : List AOper} {i : Nat} {k : List AItem} {env : Env'} {mem : Mem'} {next d es : Nat} {Q : Qst} {x : AOpd} {ne fl : Bool} (h : ops = ⟨some d, .eqn ne x, none⟩ :: rest) (hx : x.lk env = some (.fro fl es [])) (h' : RO Y fn rest (i + 1) k ((d, .anyb) :: env) mem next Q) : RO Y fn ops i k env mem next Q :=
  RO.p h (by simp [AOp.map, act, AOpd.lk_get hx]) h'
theorem _root_.Go.Eng.RO.eqnF {Y : EngSys} {fn : AFn} {ops rest : List AOper} {i : Nat} {k : List AItem} {env : Env'} {mem : Mem'} {next d es : Nat} {Q : Qst} {x : AOpd} {ne fl : Bool} {xs : List (List AV)} (h : ops = ⟨some d, .eqn ne x, none⟩ :: rest) (hx : x.lk env = some (.fro fl es xs)) (hn : xs.isEmpty = false) (h' : RO Y fn rest (i + 1) k ((d, .b ne) :: env) mem next Q) : RO Y fn ops i k env mem next Q :=
  RO.p h (by simp [AOp.map, act, AOpd.lk_get hx, hn]) h'
theorem Clone_Pair (ps : List Pr) (h : ps.length ≤ 1000000) : RF Y 53 [.fro true 2 (ps.map Pr.c)] (.own true 2 0 (ps.map Pr.c)) [] := by
  refine RF.s1 rfl rfl rfl fun Q hQ => ?_
  cases ps with
  | nil =>
    refine .seq <| .reg <| .mv rfl rfl <| .nil <| .seq <| .seq <| .reg <| .mv rfl rfl <| .eqnE rfl rfl <| .nil <| .both rfl hQ ?_ ?_
    · exact .seq <| .reg <| .mv rfl rfl <| .nil <| .ret rfl ⟨rfl, rfl⟩ .nilO LeBs.refl
    · exact .skip <| .seq <| .reg <| .row0 rfl rfl rfl <| .mv rfl rfl <| .ap rfl rfl rfl rfl rfl (by simp) (by decide) <| .mv rfl rfl <| .nil <| .ret rfl ⟨rfl, rfl⟩ (.rw (fun _ => rfl)) LeBs.refl
  | cons p ps =>
    exact .seq <| .reg <| .mv rfl rfl <| .nil <| .seq <| .seq <| .reg <| .mv rfl rfl <| .eqnF rfl rfl rfl <| .nil <| .condF rfl <| .skip <| .seq <| .reg <| .row0 rfl rfl rfl <| .mv rfl rfl <| .ap rfl rfl rfl rfl rfl (by simp at h ⊢; omega) (by decide) <| .mv rfl rfl <| .nil <| .ret rfl hQ (.rw (fun _ => rfl)) LeBs.refl
theorem _root_.Go.Eng.RO.shr1 {Y : EngSys} {fn : AFn} {ops rest : List AOper} {i : Nat} {k : List AItem} {env : Env'} {mem : Mem'} {next d : Nat} {Q : Qst} {x y : AOpd} {n : Nat} (h : ops = ⟨some d, .bin .shr x y, none⟩ :: rest) (hx : x.lk env = some (.i .u64 (n : Int))) (hy : y.lk env = some (.i .u64 1)) (h' : RO Y fn rest (i + 1) k ((d, .i .u64 ((n / 2 : Nat) : Int)) :: env) mem next Q) : RO Y fn ops i k env mem next Q :=
  RO.p h (by
    have e : ((n : Int).fdiv (2 ^ min (1 : Int).toNat IntKind.u64.bits)) = ((n / 2 : Nat) : Int) := by
      show (n : Int).fdiv 2 = _
      rw [Int.fdiv_eq_ediv_of_nonneg _ (by omega)]; omega
    simp only [AOp.map, act, AOpd.lk_get hx, AOpd.lk_get hy, binOf]
    rw [if_neg (by decide), e]; rfl) h'
theorem _root_.Go.Eng.RO.cvN {Y : EngSys} {fn : AFn} {ops rest : List AOper} {i : Nat} {k : List AItem} {env : Env'} {mem : Mem'} {next d m : Nat} {Q : Qst} {x : AOpd} {kk ki : IntKind} {n : Int} (h : ops = ⟨some d, .cvI kk x, none⟩ :: rest) (hx : x.lk env = some (.i ki n)) (he : kk.wrap n = (m : Int)) (h' : RO Y fn rest (i + 1) k ((d, .i kk (m : Int)) :: env) mem next Q) : RO Y fn ops i k env mem next Q :=
  RO.p h (by simp [AOp.map, act, AOpd.lk_get hx, he]) h'
/-- How many keys are below. -/
def low (k : Int) : List Pr → Nat
  | [] => 0
  | p :: ps => if p.k < k then low k ps + 1 else 0
theorem low_le (k : Int) : ∀ ps : List Pr, low k ps ≤ ps.length
  | [] => Nat.le_refl _
  | p :: ps => by have := low_le k ps; simp only [low, List.length_cons]; split <;> omega
theorem mOk_lt : ∀ {ps : List Pr} {lo : Int} {j : Nat} {a : Pr}, mOk lo ps = true → ps[j]? = some a → lo < a.k ∧ a.k ≤ 999 ∧ 0 ≤ a.k
  | p :: ps, lo, 0, a, h, ha => by
    simp only [mOk, Bool.and_eq_true, decide_eq_true_eq] at h
    simp at ha; subst ha; omega
  | p :: ps, lo, j + 1, a, h, ha => by
    simp only [mOk, Bool.and_eq_true, decide_eq_true_eq] at h
    have := mOk_lt h.2 (by simpa using ha)
    omega
theorem low_iff {k : Int} : ∀ {ps : List Pr} {lo : Int} {j : Nat} {a : Pr}, mOk lo ps = true → ps[j]? = some a → (a.k < k ↔ j < low k ps)
  | p :: ps, lo, 0, a, h, ha => by
    simp at ha; subst ha
    simp only [low]; split <;> omega
  | p :: ps, lo, j + 1, a, h, ha => by
    simp only [mOk, Bool.and_eq_true, decide_eq_true_eq] at h
    have ha' : ps[j]? = some a := by simpa using ha
    have h1 := low_iff (k := k) h.2 ha'
    have h2 := mOk_lt h.2 ha'
    simp only [low]; split <;> omega
def foundAt (k : Int) (ps : List Pr) : Bool := match ps[low k ps]? with
  | some a => decide (a.k = k)
  | none => false
theorem i_changed_1 (p : Pr) (k : Int) (h : -1000000 ≤ p.k - k ∧ p.k - k ≤ 1000000) : RF Y 115 [.agg (Pr.c p), i64 k] (i64 (p.k - k)) [] := by
  refine RF.s2 rfl rfl rfl fun Q hQ => ?_
  refine .seq <| .reg <| .box rfl rfl rfl <| .mv rfl rfl <| .nil <| .seq <| .reg <| .fa rfl rfl <| .ldE rfl rfl rfl rfl <| .mv rfl rfl <| .sub rfl rfl rfl (by omega) <| .mv rfl rfl <| .nil <| .ret rfl hQ .r LeBs.refl
theorem BinarySearchFunc_Pair (ps : List Pr) (k : Int) (hm : mapOk ps = true) (hk : 0 ≤ k ∧ k ≤ 999) (h : ps.length ≤ 1000000) : RF Y 114 [.fro true 2 (ps.map Pr.c), i64 k, .clo 115 []] (.tup [i64 (low k ps : Nat), .b (foundAt k ps)]) [] := by
  refine RF.s3 rfl rfl rfl fun Q hQ => ?_
  have hlo := low_le k ps
  refine .seq <| .reg <| .mv rfl rfl <| .mv rfl rfl <| .nil <| .seq <| .reg <| .mv rfl rfl <| .len rfl rfl rfl <| .mv rfl rfl <| .nil <| .seq <| .reg <| .mv rfl rfl <| .mv rfl rfl <| .mv rfl rfl <| .nil <| .seq <| .block <| ?_
  refine RA.loopI fun T0 hT0 nT0 eT0 => ?_
  have L0 : ∀ (f i j : Nat) (Q : Qst), j - i = f → i ≤ low k ps → low k ps ≤ j → j ≤ ps.length → Q (.tup [i64 (low k ps : Nat), .b (foundAt k ps)]) [] →
      RA Y a114 T0 [(0, .fro true 2 (ps.map Pr.c)), (1, i64 k), (2, .clo 115 []), (8, i64 ps.length), (9, i64 i), (10, i64 j)] [] 0 Q := by
    intro f
    induction f using Nat.strongRecOn with
    | _ f IH =>
      intro i j Q hf hi hj hjl hQ
      rw [eT0]
      refine .seq <| .seq <| .reg <| .mv rfl rfl <| .mv rfl rfl <| .lss rfl rfl rfl (fun h1 => ?_) (fun h1 => ?_)
      · obtain ⟨a, ha⟩ : ∃ a, ps[(i + j) / 2]? = some a := ⟨_, getD_at (by omega)⟩
        refine .nil <| .condT rfl <| .skip <| .block <| .seq <| .reg <| .mv rfl rfl <| .mv rfl rfl <| .add rfl rfl rfl (by omega) <| .cvN (m := i + j) rfl rfl (by rw [IntKind.wrap_u64]; omega) <| .shr1 rfl rfl rfl <| .cvN (m := (i + j) / 2) rfl rfl (by rw [IntKind.wrap_i64]; omega) <| .mv rfl rfl <| .nil <| .seq <| .reg <| .mv rfl rfl <| .mv rfl rfl <| .mv rfl rfl <| .ia rfl rfl rfl (by assumption) <| .aF rfl rfl rfl <| .mv rfl rfl <| .c rfl rfl rfl (i_changed_1 a k (by have := mOk_lt hm ha; omega)) .refl rfl rfl rfl (by decide) <| .lss rfl rfl rfl (fun h2 => ?_) (fun h2 => ?_)
        · refine .nil <| .condT rfl <| .reg <| .mv rfl rfl <| .add rfl rfl rfl (by omega) <| .mv rfl rfl <| .nil <| .inBlock <| hT0 <| ?_
          exact RA.ws [] (IH _ (by omega) ((i + j) / 2 + 1) j _ rfl (by have := low_iff (k := k) hm ha; omega) hj hjl hQ) nT0 (by exact .k rfl rfl <| .k rfl rfl <| .cl rfl <| .k rfl rfl <| .i rfl (by omega) <| .k rfl rfl .nil) .nil
        · refine .nil <| .condF rfl <| .reg <| .mv rfl rfl <| .mv rfl rfl <| .nil <| .inBlock <| hT0 <| ?_
          exact RA.ws [] (IH _ (by omega) i ((i + j) / 2) _ rfl hi (by have := low_iff (k := k) hm ha; omega) (by omega) hQ) nT0 (by exact .k rfl rfl <| .k rfl rfl <| .cl rfl <| .k rfl rfl <| .k rfl rfl <| .k rfl rfl .nil) .nil
      · obtain rfl : i = low k ps := by omega
        refine .nil <| .condF rfl <| .exit rfl <| .seq <| .reg <| .mv rfl rfl <| .mv rfl rfl <| .mv rfl rfl <| .lss rfl rfl rfl (fun h3 => ?_) (fun h3 => ?_)
        · obtain ⟨a, ha⟩ : ∃ a, ps[low k ps]? = some a := ⟨_, getD_at (by omega)⟩
          have hfd : foundAt k ps = decide (a.k = k) := by unfold foundAt; rw [ha]
          refine .mv rfl rfl <| .g rfl rfl <| .mv rfl rfl <| .g rfl rfl <| .mv rfl rfl <| .g rfl rfl <| .mv rfl rfl <| .g rfl rfl <| .ia rfl rfl rfl (by assumption) <| .g rfl rfl <| .aF rfl rfl rfl <| .g rfl rfl <| .mv rfl rfl <| .g rfl rfl <| .c rfl rfl rfl (i_changed_1 a k (by have := mOk_lt hm ha; omega)) .refl rfl rfl rfl (by decide) <| .g rfl rfl <| .eql rfl rfl rfl (fun h4 => ?_) (fun h4 => ?_)
          · refine .pickT rfl rfl rfl <| .mv rfl rfl <| .mv rfl rfl <| .nil <| .ret rfl hQ (.tup2 .r (.be (by rw [hfd] <;> first | rfl | (simp; omega) | (simp at *; omega)))) LeBs.refl
          · refine .pickT rfl rfl rfl <| .mv rfl rfl <| .mv rfl rfl <| .nil <| .ret rfl hQ (.tup2 .r (.be (by rw [hfd] <;> first | rfl | (simp; omega) | (simp at *; omega)))) LeBs.refl
        · have hfd : foundAt k ps = false := by unfold foundAt; rw [List.getElem?_eq_none (by omega)]
          refine .mv rfl rfl <| .gs rfl rfl rfl <| .gs rfl rfl rfl <| .gs rfl rfl rfl <| .gs rfl rfl rfl <| .gs rfl rfl rfl <| .gs rfl rfl rfl <| .gs rfl rfl rfl <| .gs rfl rfl rfl <| .pickF rfl rfl rfl <| .mv rfl rfl <| .mv rfl rfl <| .nil <| .ret rfl hQ (.tup2 .r (.be (by rw [hfd] <;> first | rfl | (simp; omega) | (simp at *; omega)))) LeBs.refl
  exact RA.ws [] (L0 _ 0 ps.length _ rfl (Nat.zero_le _) hlo (Nat.le_refl _) hQ) nT0 (by exact .k rfl rfl <| .k rfl rfl <| .cl rfl <| .k rfl rfl <| .k rfl rfl <| .k rfl rfl .nil) .nil
theorem _root_.Go.Eng.RO.slJ {Y : EngSys} {fn : AFn} {ops rest : List AOper} {i : Nat} {k : List AItem} {env : Env'} {mem : Mem'} {next d : Nat} {Q : Qst} {x lo hi mx : AOpd} {es l h' c id mc : Nat} {fl : Bool} {xs : List (List AV)} (h : ops = ⟨some d, .sl es x (some lo) (some hi) (some mx), none⟩ :: rest) (hx : x.lk env = some (.row id)) (hm : Eng.look mem id = some (.row fl es mc xs)) (he : es ≠ 0) (hlo : bndOf 0 (some (lo.get (E env))) = some l) (hhi : bndOf xs.length (some (hi.get (E env))) = some h') (hmx : bndOf xs.length (some (mx.get (E env))) = some c) (hb : l ≤ h' ∧ h' ≤ c ∧ c ≤ xs.length ∧ c ≠ l) (h' : RO Y fn rest (i + 1) k ((d, .junk) :: env) mem next Q) : RO Y fn ops i k env mem next Q :=
  RO.p h (by simp [AOp.map, act, slOf, AOpd.lk_get hx, hm, he, hlo, hhi, hmx, hb.1, hb.2.1, hb.2.2.1, hb.2.2.2]) h'
theorem _root_.Go.Eng.RO.slP {Y : EngSys} {fn : AFn} {ops rest : List AOper} {i : Nat} {k : List AItem} {env : Env'} {mem : Mem'} {next d : Nat} {Q : Qst} {x lo hi : AOpd} {es l u id mc : Nat} {fl : Bool} {xs : List (List AV)} (h : ops = ⟨some d, .sl es x (some lo) (some hi) none, none⟩ :: rest) (hx : x.lk env = some (.row id)) (hm : Eng.look mem id = some (.row fl es mc xs)) (he : es ≠ 0) (hlo : bndOf 0 (some (lo.get (E env))) = some l) (hhi : bndOf xs.length (some (hi.get (E env))) = some u) (hb : xs.length ≤ l ∧ l < u ∧ u ≤ mc) (h' : RO Y fn rest (i + 1) k ((d, .past id) :: env) mem next Q) : RO Y fn ops i k env mem next Q :=
  RO.p h (by
    have h1 : ¬ u ≤ xs.length := by omega
    have h2 : l ≤ u := by omega
    simp [AOp.map, act, slOf, AOpd.lk_get hx, hm, he, hlo, hhi, bnd_none, h1, hb.1, h2, hb.2.2]) h'
theorem _root_.Go.Eng.sl_view {m : Mem} {id es mc lo hi : Nat} {fl : Bool} {xs : List (List AV)} (hm : m id = some (.row fl es mc xs)) (hb : lo ≤ hi ∧ hi ≤ xs.length) : sliceOf m es (.view id lo hi) = some (fl, (xs.take hi).drop lo) := by
  simp [sliceOf, hm, hb.1, hb.2]
theorem _root_.Go.Eng.LeB.room {fl : Bool} {es mc : Nat} {xs : List (List AV)} {n : Nat} (hn : n ≤ xs.length) : LeB (.own fl es mc xs) (.own fl es n xs) :=
  .own (fun h => h) (Nat.le_trans hn (Nat.le_max_right _ _)) rfl (fun i x y hx hy => by rw [hx] at hy; cases hy; rfl) (fun i x y j u v hx hy hu hv => by rw [hx] at hy; cases hy; rw [hu] at hv; cases hv; exact .refl)
theorem Delete_Pair (ps : List Pr) (i : Nat) (hi : i < ps.length) (h : ps.length ≤ 1000000) : RF Y 116 [.own true 2 ps.length (ps.map Pr.c), i64 i, i64 (i + 1 : Nat)] (.own true 2 0 ((ps.take i ++ ps.drop (i + 1)).map Pr.c)) [.junk] := by
  refine RF.s3 rfl rfl rfl fun Q hQ => ?_
  refine .seq <| .reg <| .mv rfl rfl <| .nil <| .seq <| .reg <| .mv rfl rfl <| .mv rfl rfl <| .mv rfl rfl <| .mv rfl rfl <| .len rfl rfl rfl <| .slJ rfl rfl rfl (by decide) bnd_nat bnd_nat bnd_nat (by simp; omega) <| .nil <| .seq <| .seq <| .reg <| .mv rfl rfl <| .mv rfl rfl <| .eqlF rfl rfl rfl (by omega) <| .nil <| .condF rfl <| .skip <| .seq <| .reg <| .mv rfl rfl <| .len rfl rfl rfl <| .mv rfl rfl <| .nil <| .seq <| .regD <| .mv rfl rfl <| .mv rfl rfl <| .slR rfl rfl rfl (by decide) rfl bnd_nat (by simp; omega) <| .mv rfl rfl <| .mv rfl rfl <| .slR rfl rfl rfl (by decide) bnd_nat rfl (by simp; omega) <| .apV rfl rfl rfl (by simp; omega) rfl (sl_view rfl (by simp; omega)) (by simp; omega) (by decide) <| .mv rfl rfl <| .nil (by kernel_rfl) <| .seq <| .reg <| .mv rfl rfl <| .mv rfl rfl <| .len rfl rfl rfl <| .mv rfl rfl <| .slP rfl rfl rfl (by decide) bnd_nat bnd_nat (by simp; omega) <| .n1 rfl rfl <| .nil <| .seq <| .reg <| .mv rfl rfl <| .mv rfl rfl <| .nil <| .ret rfl hQ (.ox (by rw [List.map_append, List.map_take, List.map_drop, List.take_length]) (fun _ => rfl)) LeBs.refl
theorem Insert_end (ps : List Pr) (p : Pr) (h : ps.length ≤ 1000000) : RF Y 118 [.own true 2 0 (ps.map Pr.c), i64 ps.length, .fro true 2 [Pr.c p]] (.own true 2 0 ((ps ++ [p]).map Pr.c)) [.junk] := by
  refine RF.s3 rfl rfl rfl fun Q hQ => ?_
  refine .seq <| .reg <| .mv rfl rfl <| .nil <| .seq <| .reg <| .mv rfl rfl <| .mv rfl rfl <| .slR rfl rfl rfl (by decide) bnd_nat rfl (by simp) <| .nil <| .seq <| .reg <| .mv rfl rfl <| .len rfl rfl rfl <| .mv rfl rfl <| .nil <| .seq <| .seq <| .reg <| .mv rfl rfl <| .eqlF rfl rfl rfl (by omega) <| .nil <| .condF rfl <| .skip <| .seq <| .reg <| .mv rfl rfl <| .len rfl rfl rfl <| .mv rfl rfl <| .nil <| .seq <| .seq <| .reg <| .mv rfl rfl <| .mv rfl rfl <| .eqlT rfl rfl rfl (by omega) <| .nil <| .condT rfl <| .seq <| .reg <| .mv rfl rfl <| .mv rfl rfl <| .ap rfl rfl rfl rfl rfl (by simp; omega) (by decide) <| .mv rfl rfl <| .nil <| .ret rfl hQ (.ox (by simp) (fun _ => rfl)) LeBs.refl
theorem Insert_Pair (ps : List Pr) (p : Pr) (i : Nat) (hi : i ≤ ps.length) (h : ps.length < 1000000) : RF Y 118 [.own true 2 0 (ps.map Pr.c), i64 i, .fro true 2 [Pr.c p]] (.own true 2 0 ((ps.take i ++ p :: ps.drop i).map Pr.c)) [.junk] := by
  by_cases hlt : i < ps.length
  · exact RF.ext (Ext.ins_sound ps p i hlt h)
  · obtain rfl : i = ps.length := by omega
    rw [List.take_length, List.drop_length]
    exact Insert_end ps p (by omega)
theorem mOk_mono : ∀ {ps : List Pr} {lo lo' : Int}, lo' ≤ lo → mOk lo ps = true → mOk lo' ps = true
  | [], _, _, _, _ => rfl
  | p :: ps, lo, lo', h, hm => by
    simp only [mOk, Bool.and_eq_true, decide_eq_true_eq] at hm ⊢
    exact ⟨by omega, hm.2⟩
theorem gone_past {k v : Int} : ∀ {ps : List Pr} {lo : Int}, k ≤ lo → mOk lo ps = true → putGo k v true ps = ps ∧ without k ps = ps ∧ mapGet k ps = (0, false)
  | [], _, _, _ => ⟨rfl, rfl, rfl⟩
  | p :: ps, lo, h, hm => by
    simp only [mOk, Bool.and_eq_true, decide_eq_true_eq] at hm
    obtain ⟨a1, a2, a3⟩ := gone_past (k := k) (v := v) (show k ≤ p.k by omega) hm.2
    have hne : ¬ p.k = k := by omega
    unfold without at a2 ⊢
    exact ⟨by simp [putGo, hne, a1], by simp [hne, a2], by simp [mapGet, hne, a3]⟩
theorem put_at {k v : Int} : ∀ {ps : List Pr} {lo : Int}, mOk lo ps = true →
    (foundAt k ps = true → put k v ps = ps.set (low k ps) ⟨k, v⟩ ∧ without k ps = ps.take (low k ps) ++ ps.drop (low k ps + 1) ∧ ∃ a, ps[low k ps]? = some a ∧ a.k = k ∧ mapGet k ps = (a.v, true)) ∧
    (foundAt k ps = false → put k v ps = ps.take (low k ps) ++ ⟨k, v⟩ :: ps.drop (low k ps) ∧ without k ps = ps ∧ mapGet k ps = (0, false))
  | [], _, _ => ⟨by simp [foundAt], by simp [put, putGo, low, without, mapGet]⟩
  | p :: ps, lo, hm => by
    simp only [mOk, Bool.and_eq_true, decide_eq_true_eq] at hm
    obtain ⟨a1, a2⟩ := put_at (k := k) (v := v) hm.2
    by_cases hlt : p.k < k
    · have hne : ¬ p.k = k := by omega
      have e1 : low k (p :: ps) = low k ps + 1 := by simp [low, hlt]
      have e2 : foundAt k (p :: ps) = foundAt k ps := by simp [foundAt, e1]
      have e3 : put k v (p :: ps) = p :: put k v ps := by simp [put, putGo, hne]; intro; omega
      have e4 : without k (p :: ps) = p :: without k ps := by simp [without, hne]
      have e5 : mapGet k (p :: ps) = mapGet k ps := by simp [mapGet, hne]
      rw [e1, e2, e3, e4, e5]
      exact ⟨fun h => by obtain ⟨b1, b2, b3⟩ := a1 h; exact ⟨by simp [b1], by simp [b2], by simpa using b3⟩, fun h => by obtain ⟨b1, b2, b3⟩ := a2 h; exact ⟨by simp [b1], by rw [b2], b3⟩⟩
    · have e1 : low k (p :: ps) = 0 := by simp [low, hlt]
      have e2 : foundAt k (p :: ps) = decide (p.k = k) := by simp [foundAt, e1]
      obtain ⟨g1, g2, g3⟩ := gone_past (k := k) (v := v) (show k ≤ p.k by omega) hm.2
      rw [e1, e2]
      unfold without at g2
      by_cases he : p.k = k
      · exact ⟨fun _ => ⟨by simp [put, putGo, he, g1], by simp [without, he, g2], p, rfl, he, by simp [mapGet, he]⟩, fun h => by simp [he] at h⟩
      · exact ⟨fun h => by simp [he] at h, fun _ => ⟨by simp [put, putGo, he, g1]; omega, by simp [without, he, g2], by simp [mapGet, he, g3]⟩⟩
theorem putGo_true (k v : Int) : ∀ ps : List Pr, putGo k v true ps = without k ps
  | [] => rfl
  | p :: ps => by
    have := putGo_true k v ps
    unfold without at this ⊢
    by_cases h : p.k = k <;> simp [putGo, h, this]
theorem mOk_filter (f : Pr → Bool) : ∀ {ps : List Pr} {lo : Int}, mOk lo ps = true → mOk lo (ps.filter f) = true
  | [], _, _ => rfl
  | p :: ps, lo, hm => by
    simp only [mOk, Bool.and_eq_true, decide_eq_true_eq] at hm
    rw [List.filter_cons]
    split
    · simp only [mOk, Bool.and_eq_true, decide_eq_true_eq]; exact ⟨hm.1, mOk_filter f hm.2⟩
    · exact mOk_mono (by omega) (mOk_filter f hm.2)
theorem put_mOk {k v : Int} (hk : 0 ≤ k ∧ k ≤ 999) (hv : -1000000000 ≤ v ∧ v ≤ 1000000000) : ∀ {ps : List Pr} {lo : Int}, lo < k → mOk lo ps = true → mOk lo (put k v ps) = true
  | [], lo, hl, _ => by simp [put, putGo, mOk]; omega
  | p :: ps, lo, hl, hm => by
    simp only [mOk, Bool.and_eq_true, decide_eq_true_eq] at hm
    by_cases hlt : p.k < k
    · have e3 : put k v (p :: ps) = p :: put k v ps := by have hne : ¬ p.k = k := (by omega); simp [put, putGo, hne]; intro; omega
      rw [e3]
      simp only [mOk, Bool.and_eq_true, decide_eq_true_eq]
      exact ⟨hm.1, put_mOk hk hv hlt hm.2⟩
    · have hf : mOk p.k (without k ps) = true := mOk_filter _ hm.2
      by_cases he : p.k = k
      · have e : put k v (p :: ps) = ⟨k, v⟩ :: without k ps := by simp [put, putGo, he, putGo_true]
        rw [e]
        simp only [mOk, Bool.and_eq_true, decide_eq_true_eq]
        rw [he] at hf
        exact ⟨by omega, hf⟩
      · have e : put k v (p :: ps) = ⟨k, v⟩ :: p :: without k ps := by simp [put, putGo, he, putGo_true]; omega
        rw [e]
        simp only [mOk, Bool.and_eq_true, decide_eq_true_eq]
        exact ⟨by omega, by omega, hf⟩
theorem clamp_ok (v : Int) : -1000000000 ≤ clamp v ∧ clamp v ≤ 1000000000 := by unfold clamp; omega
theorem mapDo_mOk {ps : List Pr} {m : Ms} {lo : Int} (hl : m.ok = true → lo < m.k) (h : mOk lo ps = true) : mOk lo (mapDo ps m) = true := by
  unfold mapDo
  split
  · rename_i hk
    have hm := hk.2
    simp only [Ms.ok, decide_eq_true_eq] at hm
    split
    · exact put_mOk (by omega) (by omega) (hl hk.2) h
    · split
      · exact mOk_filter _ h
      · split
        · exact put_mOk (by omega) (clamp_ok _) (hl hk.2) h
        · exact h
  · exact h
theorem mapDo_ok {ps : List Pr} {m : Ms} (h : mapOk ps = true) : mapOk (mapDo ps m) = true :=
  mapDo_mOk (fun hm => by simp only [Ms.ok, decide_eq_true_eq] at hm; omega) h
theorem mapAll_bad {ps : List Pr} (h : mapOk ps = false) : ∀ ms : List Ms, mapAll ps ms = ps
  | [] => rfl
  | m :: ms => by
    have e : mapDo ps m = ps := by simp [mapDo, h]
    have := mapAll_bad h ms
    unfold mapAll at this ⊢
    rw [List.foldl_cons, e]; exact this
theorem mapDo_bad (ps : List Pr) {m : Ms} (h : m.ok = false) : mapDo ps m = ps := by simp [mapDo, h]
theorem i_changed (ps : List Pr) (m : Ms) (h : ps.length < 1000000) (hk : mapOk ps = true) (hm : m.ok = true) : RF Y 55 [.own true 2 0 (ps.map Pr.c), .agg (Ms.c m)] (.own true 2 0 ((mapDo ps m).map Pr.c)) [.junk] := by
  refine RF.s2 rfl rfl rfl fun Q hQ => ?_
  have hm' := hm
  simp only [Ms.ok, decide_eq_true_eq] at hm'
  have hlo := low_le m.k ps
  have hgo := mapGet_ok (k := m.k) hk
  obtain ⟨A1, A2⟩ := put_at (k := m.k) (v := m.v) hk
  obtain ⟨B1, B2⟩ := put_at (k := m.k) (v := clamp ((mapGet m.k ps).1 + m.v)) hk
  refine .seq <| .reg <| .box rfl rfl rfl <| .mv rfl rfl <| .nil <| .seq <| .reg <| .mv rfl rfl <| .fa rfl rfl <| .ldE rfl rfl rfl rfl <| .c rfl rfl rfl (BinarySearchFunc_Pair ps m.k hk (by omega) (by omega)) .refl rfl rfl rfl (by decide) <| .mv rfl rfl <| .ex rfl rfl rfl <| .ex rfl rfl rfl <| .bB (fun h1 => ?_) (fun h1 => ?_)
  · obtain ⟨a1, a2, x, a3, a4, a5⟩ := A1 h1
    obtain ⟨b1, _⟩ := B1 h1
    have hx1 := (List.getElem?_eq_some_iff.1 a3).1
    have hxc : (ps.map Pr.c)[low m.k ps]? = some (Pr.c x) := by simp [a3]
    rw [a5] at hgo
    dsimp only at hgo
    refine .mv rfl rfl <| .mv rfl rfl <| .nil <| .seq <| .reg <| .fa rfl rfl <| .ldE rfl rfl rfl rfl <| .mv rfl rfl <| .nil <| .seq <| .block <| .seq <| .reg <| .fa rfl rfl <| .ldE rfl rfl rfl rfl <| .eql rfl rfl rfl (fun h2 => ?_) (fun h2 => ?_)
    · have e : mapDo ps m = ps := by
        unfold mapDo
        rw [if_pos ⟨hk, hm⟩]
        rw [if_neg (by omega), if_neg (by omega), if_neg (by omega)]
      rw [e] at hQ
      refine .mv rfl rfl <| .nil <| .condT rfl <| .seq <| .reg <| .mv rfl rfl <| .mv rfl rfl <| .nil <| .ret rfl hQ (.ox (by first | rfl | (simp [Pr.c, lay, a4]; done)) (fun _ => rfl)) LeBs.refl
    · refine .mv rfl rfl <| .nil <| .condF rfl <| .seq <| .reg <| .fa rfl rfl <| .ldE rfl rfl rfl rfl <| .eql rfl rfl rfl (fun h3 => ?_) (fun h3 => ?_)
      · have e : mapDo ps m = ps.take (low m.k ps) ++ ps.drop (low m.k ps + 1) := by
          unfold mapDo
          rw [if_pos ⟨hk, hm⟩]
          rw [if_neg (by omega), if_pos (by omega), a2]
        rw [e] at hQ
        refine .mv rfl rfl <| .g rfl rfl <| .mv rfl rfl <| .pickT rfl rfl rfl <| .mv rfl rfl <| .nil <| .condT rfl <| .seq <| .reg <| .mv rfl rfl <| .mv rfl rfl <| .mv rfl rfl <| .add rfl rfl rfl (by omega) <| .cM rfl rfl rfl (Delete_Pair ps (low m.k ps) hx1 (by omega)) (.c (.room (by simp)) (.c .r (.c .r .n))) rfl rfl (by decide) <| .mv rfl rfl <| .nil <| .ret rfl hQ (.ox (by first | rfl | (simp [Pr.c, lay, a4]; done)) (fun _ => rfl)) LeBs.refl
      · refine .mv rfl rfl <| .gs rfl rfl rfl <| .pickF rfl rfl rfl <| .mv rfl rfl <| .nil <| .condF rfl <| .seq <| .reg <| .fa rfl rfl <| .ldE rfl rfl rfl rfl <| .eqlF rfl rfl rfl (by omega) <| .mv rfl rfl <| .nil <| .condF rfl <| .seq <| .reg <| .fa rfl rfl <| .ldE rfl rfl rfl rfl <| .eql rfl rfl rfl (fun h5 => ?_) (fun h5 => ?_)
        · have e : mapDo ps m = ps.set (low m.k ps) ⟨m.k, clamp (x.v + m.v)⟩ := by
            unfold mapDo
            rw [if_pos ⟨hk, hm⟩]
            rw [if_neg (by omega), if_neg (by omega), if_pos (by omega), b1, a5]
          rw [e] at hQ
          refine .mv rfl rfl <| .g rfl rfl <| .mv rfl rfl <| .pickT rfl rfl rfl <| .mv rfl rfl <| .nil <| .condT rfl <| .regD <| .mv rfl rfl <| .mv rfl rfl <| .iaR rfl rfl rfl rfl (by first | assumption | (simp; omega)) <| .fa rfl rfl <| .ldR rfl rfl rfl (by assumption) rfl <| .fa rfl rfl <| .ldE rfl rfl rfl rfl <| .add rfl rfl rfl (by omega) <| .c rfl rfl rfl (i_limited (x.v + m.v)) .refl rfl rfl rfl (by decide) <| .mv rfl rfl <| .nil (by kernel_rfl) <| .inBlock <| .seq <| .seq <| .reg <| .mv rfl rfl <| .nil <| .condT rfl <| .seq <| .reg <| .mv rfl rfl <| .mv rfl rfl <| .mv rfl rfl <| .iaR rfl rfl rfl rfl (by first | assumption | (simp; omega)) <| .fa rfl rfl <| .stR rfl rfl rfl rfl rfl rfl rfl (by assumption) (of_decide_eq_true rfl) rfl <| .nil <| .seq <| .reg <| .mv rfl rfl <| .mv rfl rfl <| .nil <| .ret rfl hQ (.ox (by first | rfl | (simp [Pr.c, lay, a4]; done)) (fun _ => rfl)) LeBs.refl
        · have e : mapDo ps m = ps.set (low m.k ps) ⟨m.k, m.v⟩ := by
            unfold mapDo
            rw [if_pos ⟨hk, hm⟩]
            rw [if_pos (by omega), a1]
          rw [e] at hQ
          refine .mv rfl rfl <| .gs rfl rfl rfl <| .pickF rfl rfl rfl <| .mv rfl rfl <| .nil <| .condF rfl <| .skip <| .inBlock <| .seq <| .seq <| .reg <| .mv rfl rfl <| .nil <| .condT rfl <| .seq <| .reg <| .mv rfl rfl <| .mv rfl rfl <| .mv rfl rfl <| .iaR rfl rfl rfl rfl (by first | assumption | (simp; omega)) <| .fa rfl rfl <| .stR rfl rfl rfl rfl rfl rfl rfl (by assumption) (of_decide_eq_true rfl) rfl <| .nil <| .seq <| .reg <| .mv rfl rfl <| .mv rfl rfl <| .nil <| .ret rfl hQ (.ox (by first | rfl | (simp [Pr.c, lay, a4]; done)) (fun _ => rfl)) LeBs.refl
  · obtain ⟨a1, a2, a5⟩ := A2 h1
    obtain ⟨b1, _⟩ := B2 h1
    refine .mv rfl rfl <| .mv rfl rfl <| .nil <| .seq <| .reg <| .fa rfl rfl <| .ldE rfl rfl rfl rfl <| .mv rfl rfl <| .nil <| .seq <| .block <| .seq <| .reg <| .fa rfl rfl <| .ldE rfl rfl rfl rfl <| .eql rfl rfl rfl (fun h6 => ?_) (fun h6 => ?_)
    · have e : mapDo ps m = ps := by
        unfold mapDo
        rw [if_pos ⟨hk, hm⟩]
        rw [if_neg (by omega), if_neg (by omega), if_neg (by omega)]
      rw [e] at hQ
      refine .mv rfl rfl <| .nil <| .condT rfl <| .seq <| .reg <| .mv rfl rfl <| .mv rfl rfl <| .nil <| .ret rfl hQ (.ox (by first | rfl | (simp [Pr.c, lay, a4]; done)) (fun _ => rfl)) LeBs.refl
    · refine .mv rfl rfl <| .nil <| .condF rfl <| .seq <| .reg <| .fa rfl rfl <| .ldE rfl rfl rfl rfl <| .eql rfl rfl rfl (fun h7 => ?_) (fun h7 => ?_)
      · have e : mapDo ps m = ps := by
          unfold mapDo
          rw [if_pos ⟨hk, hm⟩]
          rw [if_neg (by omega), if_pos (by omega), a2]
        rw [e] at hQ
        refine .mv rfl rfl <| .g rfl rfl <| .mv rfl rfl <| .pickT rfl rfl rfl <| .mv rfl rfl <| .nil <| .condF rfl <| .seq <| .reg <| .fa rfl rfl <| .ldE rfl rfl rfl rfl <| .eqlT rfl rfl rfl (by omega) <| .mv rfl rfl <| .nil <| .condT rfl <| .seq <| .reg <| .mv rfl rfl <| .mv rfl rfl <| .nil <| .ret rfl hQ (.ox (by first | rfl | (simp [Pr.c, lay, a4]; done)) (fun _ => rfl)) LeBs.refl
      · refine .mv rfl rfl <| .gs rfl rfl rfl <| .pickF rfl rfl rfl <| .mv rfl rfl <| .nil <| .condF rfl <| .seq <| .reg <| .fa rfl rfl <| .ldE rfl rfl rfl rfl <| .eqlF rfl rfl rfl (by omega) <| .mv rfl rfl <| .nil <| .condF rfl <| .seq <| .reg <| .fa rfl rfl <| .ldE rfl rfl rfl rfl <| .eql rfl rfl rfl (fun h10 => ?_) (fun h10 => ?_)
        · have e : mapDo ps m = ps.take (low m.k ps) ++ ⟨m.k, m.v⟩ :: ps.drop (low m.k ps) := by
            unfold mapDo
            rw [if_pos ⟨hk, hm⟩]
            rw [if_neg (by omega), if_neg (by omega), if_pos (by omega), b1, a5, show clamp ((0 : Int) + m.v) = m.v by unfold clamp; omega]
          rw [e] at hQ
          refine .mv rfl rfl <| .g rfl rfl <| .mv rfl rfl <| .pickT rfl rfl rfl <| .mv rfl rfl <| .nil <| .condF rfl <| .skip <| .inBlock <| .seq <| .seq <| .reg <| .mv rfl rfl <| .nil <| .condF rfl <| .skip <| .seq <| .reg <| .mv rfl rfl <| .mv rfl rfl <| .fa rfl rfl <| .ldE rfl rfl rfl rfl <| .mv rfl rfl <| .build (cs := [_, _]) rfl rfl rfl <| .row1P rfl rfl rfl rfl rfl rfl rfl rfl <| .cM rfl rfl rfl (Insert_Pair ps ⟨m.k, m.v⟩ (low m.k ps) hlo (by omega)) (.c .r (.c .r (.c .r .n))) rfl rfl (by decide) <| .mv rfl rfl <| .nil <| .ret rfl hQ (.ox (by first | rfl | (simp [Pr.c, lay, a4]; done)) (fun _ => rfl)) LeBs.refl
        · have e : mapDo ps m = ps.take (low m.k ps) ++ ⟨m.k, m.v⟩ :: ps.drop (low m.k ps) := by
            unfold mapDo
            rw [if_pos ⟨hk, hm⟩]
            rw [if_pos (by omega), a1]
          rw [e] at hQ
          refine .mv rfl rfl <| .gs rfl rfl rfl <| .pickF rfl rfl rfl <| .mv rfl rfl <| .nil <| .condF rfl <| .skip <| .inBlock <| .seq <| .seq <| .reg <| .mv rfl rfl <| .nil <| .condF rfl <| .skip <| .seq <| .reg <| .mv rfl rfl <| .mv rfl rfl <| .fa rfl rfl <| .ldE rfl rfl rfl rfl <| .mv rfl rfl <| .build (cs := [_, _]) rfl rfl rfl <| .row1P rfl rfl rfl rfl rfl rfl rfl rfl <| .cM rfl rfl rfl (Insert_Pair ps ⟨m.k, m.v⟩ (low m.k ps) hlo (by omega)) (.c .r (.c .r (.c .r .n))) rfl rfl (by decide) <| .mv rfl rfl <| .nil <| .ret rfl hQ (.ox (by first | rfl | (simp [Pr.c, lay, a4]; done)) (fun _ => rfl)) LeBs.refl
theorem i_MapAll (ps : List Pr) (ms : List Ms) (h : ps.length + ms.length < 1000000) : RF Y 77 [.fro true 2 (ps.map Pr.c), .fro true 3 (ms.map Ms.c)] (.own true 2 0 ((mapAll ps ms).map Pr.c)) [] := by
  refine RF.s2 rfl rfl rfl fun Q hQ => ?_
  refine .seq <| .reg <| .mv rfl rfl <| .nil <| .seq <| .reg <| .mv rfl rfl <| .c rfl rfl rfl (Clone_Pair ps (by omega)) .refl rfl rfl rfl (by decide) <| .mv rfl rfl <| .nil <| .seq <| .seq <| .reg <| .mv rfl rfl <| .c rfl rfl rfl (i_MapOk ps (by omega)) .refl rfl rfl rfl (by decide) <| .bB (fun h1 => ?_) (fun h1 => ?_)
  · refine .notT rfl rfl <| .nil <| .condF rfl <| .skip <| .seq <| .seq <| .reg <| .mv rfl rfl <| .len rfl rfl rfl <| .mv rfl rfl <| .nil <| .block <| ?_
    refine RA.loopI fun T0 hT0 nT0 eT0 => ?_
    have L0 : ∀ (post pre : List Ms) (out : List Pr) (Q : Qst), ms = pre ++ post → mapOk out = true → out.length ≤ ps.length + pre.length → Q (.own true 2 0 ((mapAll out post).map Pr.c)) [] → RA Y a77 T0 [(5, .row 0), (14, .fro true 3 (ms.map Ms.c)), (15, i64 ms.length), (16, i64 pre.length)] [(0, .row true 2 0 (out.map Pr.c))] 1 Q := by
      intro post
      induction post with
      | nil =>
        intro pre out Q hc hk ho hQ
        have hl : ms.length = pre.length := by simp [hc]
        rw [eT0]
        refine .seq <| .reg <| .lssF rfl rfl rfl (by omega) <| .nil <| .seq <| .condF rfl <| .exit rfl <| .seq <| .reg <| .mv rfl rfl <| .mv rfl rfl <| .nil <| .ret rfl hQ (.rw (by first | exact fun _ => rfl | exact fun h => by cases h)) LeBs.refl
      | cons a post ih =>
        intro pre out Q hc hk ho hQ
        have hl : ms.length = pre.length + post.length + 1 := by simp [hc]; omega
        have ha : ms[pre.length]? = some a := by simp [hc]
        rw [eT0]
        refine .seq <| .reg <| .lssT rfl rfl rfl (by omega) <| .nil <| .seq <| .condT rfl <| .skip <| .seq <| .block <| .seq <| .reg <| .ia rfl rfl rfl (by assumption) <| .aF rfl rfl rfl <| .new rfl <| .stA rfl rfl rfl rfl rfl rfl <| .nil <| .seq <| .reg <| .aE rfl rfl rfl rfl <| .c rfl rfl rfl (i_MsgOk a) .refl rfl rfl rfl (by decide) <| .bB (fun h3 => ?_) (fun h3 => ?_)
        · refine .nil <| .condT rfl <| .reg <| .mv rfl rfl <| .aE rfl rfl rfl rfl <| .cM rfl rfl rfl (i_changed out a (by omega) hk h3) (.c .r (.c .r .n)) rfl rfl (by decide) <| .mv rfl rfl <| .nil <| .inBlock <| .reg <| .add rfl rfl rfl (by omega) <| .mv rfl rfl <| .nil <| hT0 <| ?_
          exact RA.wq [_] (ih (pre ++ [a]) (mapDo out a) _ (by simp [hc]) (mapDo_ok hk) (by have := mapDo_len out a; simp; omega) hQ) nT0
        · refine .nil <| .condF rfl <| .skip <| .inBlock <| .reg <| .add rfl rfl rfl (by omega) <| .mv rfl rfl <| .nil <| hT0 <| ?_
          exact RA.wq [_] (ih (pre ++ [a]) out _ (by simp [hc]) hk (by simp; omega) (by rw [show mapAll out (a :: post) = mapAll (mapDo out a) post from rfl, mapDo_bad out h3] at hQ; exact hQ)) nT0
    exact RA.wq [_] (L0 ms [] ps _ rfl h1 (by simp) hQ) nT0
  · rw [mapAll_bad h1] at hQ
    refine .notF rfl rfl <| .nil <| .condT rfl <| .seq <| .reg <| .mv rfl rfl <| .mv rfl rfl <| .nil <| .ret rfl hQ (.rw (by first | exact fun _ => rfl | exact fun h => by cases h)) LeBs.refl
end Go.Proofs.YtjjocahgbmibeaaGreat
