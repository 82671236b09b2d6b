/- Packing, place by place; and how trees side by side are told less exactly. -/
import Derived.Test.YtjjocahgbmibeaaA1
set_option linter.unusedVariables false
set_option linter.unusedSimpArgs false
namespace Go.Proofs.Ytjjocahgbmibeaa
open Go.Eng
theorem packL_fuel : ∀ (f f' : Nat) (c : Option Int) (ts : List Tr) (cs : List Int), ts.length ≤ f → ts.length ≤ f' → packL f c ts cs = packL f' c ts cs
  | 0, 0, c, ts, cs, _, _ => rfl
  | 0, f' + 1, c, ts, cs, h, _ => by simp [packL, show ts.length = 0 by omega]
  | f + 1, 0, c, ts, cs, _, h => by simp [packL, show ts.length = 0 by omega]
  | f + 1, f' + 1, c, ts, cs, h, h' => by
    simp only [packL]
    split
    · rfl
    · rename_i h0
      have hk : 2 ≤ many ts.length := by unfold many; split <;> omega
      rw [packL_fuel f f' _ (ts.drop (many ts.length)) _ (by simp; omega) (by simp; omega)]
def cutAt (m : Mn) (i : Nat) : Option Int := if i = 0 then none else m.cs[i - 1]?
def packAt (m : Mn) (i : Nat) : Mn := packL (m.ts.length - i) (cutAt m i) (m.ts.drop i) (m.cs.drop i)
theorem pack_at (m : Mn) : pack m = packAt m 0 := rfl
theorem packAt_end {m : Mn} {i : Nat} (h : ¬ i < m.ts.length) : packAt m i = ⟨[], []⟩ := by
  unfold packAt; rw [show m.ts.length - i = 0 by omega]; rfl
theorem packAt_step {m : Mn} {i k : Nat} (h : i < m.ts.length) (hk : many (m.ts.length - i) = k) :
    packAt m i = ⟨nodeT ((m.cs.drop i).take (k - 1)) ((m.ts.drop i).take k) [] :: (packAt m (i + k)).ts, (cutAt m i).toList ++ (packAt m (i + k)).cs⟩ := by
  have hk2 : 2 ≤ k := by rw [← hk]; unfold many; split <;> omega
  unfold packAt
  rw [packL_fuel _ (m.ts.length - i - 1 + 1) _ _ _ (by simp) (by simp; omega)]
  simp only [packL, List.length_drop, if_neg (show ¬ m.ts.length - i = 0 by omega), hk, List.drop_drop]
  have e1 : (m.cs.drop i)[k - 1]? = cutAt m (i + k) := by
    unfold cutAt; rw [if_neg (by omega), List.getElem?_drop]; congr 1; omega
  rw [e1, packL_fuel _ (m.ts.length - (i + k)) _ _ _ (by simp; omega) (by simp)]
theorem leafL_fuel : ∀ (f f' : Nat) (b : Bool) (ps : List Pr), ps.length ≤ f → ps.length ≤ f' → leafL f b ps = leafL f' b ps
  | 0, 0, b, ps, _, _ => rfl
  | 0, f' + 1, b, ps, h, _ => by simp [leafL, show ps.length = 0 by omega]
  | f + 1, 0, b, ps, _, h => by simp [leafL, show ps.length = 0 by omega]
  | f + 1, f' + 1, b, ps, h, h' => by
    simp only [leafL]
    split
    · rfl
    · rename_i h0
      have hk : 2 ≤ many ps.length := by unfold many; split <;> omega
      rw [leafL_fuel f f' _ (ps.drop (many ps.length)) (by simp; omega) (by simp; omega)]
def leafAt (ps : List Pr) (i : Nat) : Mn := leafL (ps.length - i) (decide (i = 0)) (ps.drop i)
theorem leafAt_end {ps : List Pr} {i : Nat} (h : ¬ i < ps.length) : leafAt ps i = ⟨[], []⟩ := by
  unfold leafAt; rw [show ps.length - i = 0 by omega]; rfl
theorem leafAt_step {ps : List Pr} {i k : Nat} {a : Pr} (h : ps[i]? = some a) (hk : many (ps.length - i) = k) :
    leafAt ps i = ⟨leafT ((ps.drop i).take k) :: (leafAt ps (i + k)).ts, (if i = 0 then [] else [a.k]) ++ (leafAt ps (i + k)).cs⟩ := by
  have hi := (List.getElem?_eq_some_iff.1 h).1
  have hk2 : 2 ≤ k := by rw [← hk]; unfold many; split <;> omega
  unfold leafAt
  rw [leafL_fuel _ (ps.length - i - 1 + 1) _ _ (by simp) (by simp; omega)]
  have e2 : (ps.drop i).getD 0 default = a := by rw [drop_at h]; rfl
  simp only [leafL, List.length_drop, if_neg (show ¬ ps.length - i = 0 by omega), hk, List.drop_drop, e2]
  rw [leafL_fuel _ (ps.length - (i + k)) _ _ (by simp; omega) (by simp), show decide (i + k = 0) = false by simp; omega]
  by_cases h0 : i = 0 <;> simp [h0]
end Go.Proofs.Ytjjocahgbmibeaa
namespace Go.Eng
/-! Told less exactly. -/
theorem LeF.rx {fl fl' : Bool} {es : Nat} {xs : List (List AV)} {β : Type} {l l' : List β} {f : β → List AV} [h : Rw xs l f] (hf : fl' = true → fl = true) (he : l = l') : LeF (.fro fl es xs) (.fro fl' es (l'.map f)) := he ▸ .rw hf
theorem LeB.ox {fl fl' : Bool} {es mc : Nat} {xs ys : List (List AV)} (he : xs = ys) (hf : fl' = true → fl = true) : LeB (.own fl es mc xs) (.own fl' es 0 ys) := by
  subst he
  refine .own hf (Nat.zero_le _) rfl (fun i x y hx hy => by rw [hx] at hy; obtain rfl := Option.some.inj hy; rfl) (fun i x y j u v hx hy hu hv => ?_)
  rw [hx] at hy; obtain rfl := Option.some.inj hy
  rw [hu] at hv; obtain rfl := Option.some.inj hv
  exact .refl
theorem LeF.snoc {fl fl' : Bool} {es : Nat} {xs : List (List AV)} {x : List AV} {β : Type} {l : List β} {f : β → List AV} {a : β} [h : Rw xs l f] (hf : fl' = true → fl = true) (hl : x.length = (f a).length) (hx : ∀ (i : Nat) u v, x[i]? = some u → (f a)[i]? = some v → LeF u v) : LeF (.fro fl es (xs ++ [x])) (.fro fl' es ((l ++ [a]).map f)) := by
  rw [h.eq]
  have key : ∀ (i : Nat) p q, (l.map f ++ [x])[i]? = some p → ((l ++ [a]).map f)[i]? = some q → p = q ∨ p = x ∧ q = f a := by
    intro i p q hp hq
    rw [List.map_append] at hq
    by_cases hi : i < (l.map f).length
    · rw [List.getElem?_append_left hi] at hp hq
      rw [hp] at hq; exact .inl (Option.some.inj hq)
    · rw [List.getElem?_append_right (by omega)] at hp hq
      cases hj : i - (l.map f).length with
      | zero => rw [hj] at hp hq; exact .inr ⟨(Option.some.inj hp).symm, (Option.some.inj hq).symm⟩
      | succ j => rw [hj] at hp; simp at hp
  refine .fro hf (by simp) (fun i p q hp hq => ?_) (fun i p q j u v hp hq hu hv => ?_)
  · rcases key i p q hp hq with rfl | ⟨rfl, rfl⟩
    · rfl
    · exact hl
  · rcases key i p q hp hq with rfl | ⟨rfl, rfl⟩
    · rw [hu] at hv; obtain rfl := Option.some.inj hv; exact .refl
    · exact hx j u v hu hv
theorem LeB.ofF {fl fl' : Bool} {es mc mc' : Nat} {xs ys : List (List AV)} (h : LeF (.fro fl es xs) (.fro fl' es ys)) (hm : mc' ≤ mc) : LeB (.own fl es mc xs) (.own fl' es mc' ys) := by
  cases h with
  | refl =>
    refine .own id (Nat.le_trans hm (Nat.le_max_left _ _)) rfl (fun i x y hx hy => by rw [hx] at hy; obtain rfl := Option.some.inj hy; rfl) (fun i x y j u v hx hy hu hv => ?_)
    rw [hx] at hy; obtain rfl := Option.some.inj hy
    rw [hu] at hv; obtain rfl := Option.some.inj hv
    exact .refl
  | fro hf hl hr h => exact .own hf (Nat.le_trans hm (Nat.le_max_left _ _)) hl hr h
theorem LeB.one {fl fl' : Bool} {es mc : Nat} {x : List AV} {β : Type} {f : β → List AV} {a : β} (hf : fl' = true → fl = true) (hl : x.length = (f a).length) (hx : ∀ (i : Nat) u v, x[i]? = some u → (f a)[i]? = some v → LeF u v) : LeB (.own fl es mc [x]) (.own fl' es 0 [f a]) :=
  have h : Rw ([] : List (List AV)) ([] : List β) f := ⟨rfl⟩
  .ofF (LeF.snoc (xs := []) (l := []) hf hl hx) (Nat.zero_le _)
theorem LeM.s {q : List Nat} {m : Mem} {rest : List (Nat × AObj)} {k id es mc : Nat} {fl fl' : Bool} {xs : List (List AV)} {x : List AV} {β : Type} {l : List β} {f : β → List AV} {a : β} (h1 : q[k]? = some id) (h2 : m id = some (.row fl es mc (xs ++ [x]))) [hw : Rw xs l f] (hf : fl' = true → fl = true)
    (hl : x.length = (f a).length) (hx : ∀ (i : Nat) u v, x[i]? = some u → (f a)[i]? = some v → LeF u v) (h : LeM q m rest) : LeM q m ((k, .row fl' es 0 ((l ++ [a]).map f)) :: rest) := .c h1 h2 (.row (Nat.zero_le _) (.snoc hf hl hx)) h
theorem LeM.rx {q : List Nat} {m : Mem} {l : List (Nat × AObj)} {k id es mc : Nat} {fl fl' : Bool} {xs : List (List AV)} {β : Type} {ls ls' : List β} {f : β → List AV} (h1 : q[k]? = some id) (h2 : m id = some (.row fl es mc xs)) [hw : Rw xs ls f] (he : ls = ls') (hf : fl' = true → fl = true) (h : LeM q m l) : LeM q m ((k, .row fl' es 0 (ls'.map f)) :: l) := by subst he; exact .c h1 h2 (.rw hf) h
theorem RA.freshT {Y : EngSys} {fn : AFn} {todo : List AItem} {env : Env'} {mem : Mem'} {next id : Nat} {Q : Qst} {cs : List AV} (t c es : Nat) (hn : noOps todo = true) (he : look env t = some (.elt id 0 0)) (ht : look mem id = some (.box cs)) (hc : cs[c]? = some .emp)
    (h : RA Y fn todo env ((id, .box (cs.set c (.row next))) :: (next, .row true es 0 []) :: mem) (next + 1) Q) : RA Y fn todo env mem next Q := .freshB hn ht hc h
theorem RA.freshV {Y : EngSys} {fn : AFn} {todo : List AItem} {env : Env'} {mem : Mem'} {next : Nat} {Q : Qst} (t es : Nat) (hn : noOps todo = true) (he : look env t = some .emp)
    (h : RA Y fn todo ((t, .row next) :: env) ((next, .row true es 0 []) :: mem) (next + 1) Q) : RA Y fn todo env mem next Q := .fresh hn (by simp [E, he]) h
theorem RO.stRz {Y : EngSys} {fn : AFn} {ops rest : List AOper} {i : Nat} {k : List AItem} {env : Env'} {mem : Mem'} {next : Nat} {Q : Qst} {v : AV} {x y : AOpd} {id n j sz es mc : Nat} {fl : Bool} {xs : List (List AV)} {cs ds fs qs : List AV} {u : Ups} (h : ops = ⟨none, .st sz x y, none⟩ :: rest) (hx : x.lk env = some (.elt id n j)) (hy : y.lk env = some v) (hv : v.cells = some ds) (hd : ds.length = sz) (hm : look mem id = some (.row fl es mc xs)) (hf : fzCells (look mem) ds = some (fs, u)) (hu : u.all (fun p => !(p.1 == id)) = true) (hc : xs[n]? = some cs) (hl : j + sz ≤ cs.length) (hq : lay cs j fs = qs)
    (h' : RO Y fn rest (i + 1) k env ((u ++ [(id, .row (fl && fs.all AV.lit) es mc (xs.set n qs))] : Ups).reverse ++ mem) next Q) : RO Y fn ops i k env mem next Q :=
  RO.n (v := .junk) h (by subst hq; simp only [AOp.map, act, AOpd.lk_get hx, AOpd.lk_get hy, hv, hd, hm, hf, hc, hl, hu, Option.bind_some, if_true, and_self]) h'
theorem RD.stRz {Y : EngSys} {fn : AFn} {ops rest : List AOper} {i : Nat} {tr : List (List Nat × List Nat)} {ps : List (Nat × Nat)} {k : List AItem} {env : Env'} {mem : Mem'} {next : Nat} {Q : Qst} {v : AV} {x y : AOpd} {id n j sz es mc : Nat} {fl : Bool} {xs : List (List AV)} {cs ds fs qs : List AV} {u : Ups} (h : ops = ⟨none, .st sz x y, none⟩ :: rest) (hx : x.lk env = some (.elt id n j)) (hy : y.lk env = some v) (hv : v.cells = some ds) (hd : ds.length = sz) (hm : look mem id = some (.row fl es mc xs)) (hf : fzCells (look mem) ds = some (fs, u)) (hu : u.all (fun p => !(p.1 == id)) = true) (hc : xs[n]? = some cs) (hl : j + sz ≤ cs.length) (hq : lay cs j fs = qs)
    (h' : RD Y fn rest (i + 1) (tr ++ [(touchOf (look mem) ((AOp.st sz x y).map (AOpd.get (E env))), (u ++ [(id, .row (fl && fs.all AV.lit) es mc (xs.set n qs))] : Ups).map (·.1))]) ps k env ((u ++ [(id, .row (fl && fs.all AV.lit) es mc (xs.set n qs))] : Ups).reverse ++ mem) next Q) : RD Y fn ops i tr ps k env mem next Q :=
  RD.n (v := .junk) h (by subst hq; simp only [AOp.map, act, AOpd.lk_get hx, AOpd.lk_get hy, hv, hd, hm, hf, hc, hl, hu, Option.bind_some, if_true, and_self]) h'
theorem RFx.s0 {Y : EngSys} {f : Nat} {fn : AFn} {Q : Qst} (h : Y.Γ f = some fn) (hm : Y.md f = fn.modes) (hl : fn.modes.length = ([] : List AV).length) (h' : RA Y fn [.code fn.code] [] [] 0 Q) : RFx Y f [] Q := .start (vs := []) h hm hl h'
theorem RF.s0 {Y : EngSys} {f : Nat} {fn : AFn} {r : AV} {outs : List AV} (h : Y.Γ f = some fn) (hm : Y.md f = fn.modes) (hl : fn.modes.length = ([] : List AV).length) (h' : ∀ Q : Qst, Q r outs → RA Y fn [.code fn.code] [] [] 0 Q) : RF Y f [] r outs := .x (.s0 h hm hl (h' _ ⟨rfl, rfl⟩))
end Go.Eng
namespace Go.Proofs.Ytjjocahgbmibeaa
open Go.Eng
theorem _root_.Go.Eng.LeF.kx {fl : Bool} {xs : List (List AV)} {l l' : List Tr} [h : Rw xs l Tr.e] (he : l = l') : LeF (.fro fl 5 xs) (.fro false 5 (l'.map Tr.c)) := by rw [Tr.c_e]; exact .rx (fun h => by cases h) he
instance {n mem} (m : Mn) : ImpR n m.o mem (.agg [.row n, .row (n + 1)]) ((n + 1, .row true 1 0 (m.cs.map Ic)) :: (n, .row false 5 0 (m.ts.map Tr.e)) :: mem) (n + 1 + 1) := by unfold Mn.o; infer_instance
theorem leTr {t : Tr} {b pa ca ka ba : AV} (h0 : b = .b t.leaf) (h1 : LeF pa (.fro true 2 (t.ps.map Pr.c))) (h2 : LeF ca (.fro true 1 (t.cs.map Ic))) (h3 : LeF ka (.fro false 5 (t.ks.map Tr.c))) (h4 : LeF ba (.fro true 3 (t.bs.map Ms.c))) :
    ∀ (i : Nat) u v, [b, pa, ca, ka, ba][i]? = some u → t.e[i]? = some v → LeF u v := pairC (.of h0) (pairC h1 (pairC h2 (pairC h3 (pair1 h4))))
/-- A tree as an answer. -/
def Tr.o (t : Tr) : AV := .agg [.b t.leaf, .own true 2 0 (t.ps.map Pr.c), .own true 1 0 (t.cs.map Ic), .own false 5 0 (t.ks.map Tr.e), .own true 3 0 (t.bs.map Ms.c)]
instance {n mem} (t : Tr) : ImpR n t.o mem (.agg [.b t.leaf, .row n, .row (n + 1), .row (n + 1 + 1), .row (n + 1 + 1 + 1)]) ((n + 1 + 1 + 1, .row true 3 0 (t.bs.map Ms.c)) :: (n + 1 + 1, .row false 5 0 (t.ks.map Tr.e)) :: (n + 1, .row true 1 0 (t.cs.map Ic)) :: (n, .row true 2 0 (t.ps.map Pr.c)) :: mem) (n + 1 + 1 + 1 + 1) := by unfold Tr.o; infer_instance
instance {n mem} (t : Tr) : ImpV n t.o mem (.agg [.b t.leaf, .row n, .row (n + 1), .row (n + 1 + 1), .row (n + 1 + 1 + 1)]) ((n + 1 + 1 + 1, .row true 3 0 (t.bs.map Ms.c)) :: (n + 1 + 1, .row false 5 0 (t.ks.map Tr.e)) :: (n + 1, .row true 1 0 (t.cs.map Ic)) :: (n, .row true 2 0 (t.ps.map Pr.c)) :: mem) (n + 1 + 1 + 1 + 1) := by unfold Tr.o; infer_instance
theorem _root_.Go.Eng.LeB.trF (t : Tr) : LeB (.agg [.b t.leaf, .fro true 2 (t.ps.map Pr.c), .fro true 1 (t.cs.map Ic), .fro false 5 (t.ks.map Tr.e), .fro true 3 (t.bs.map Ms.c)]) (.agg t.e) := .agg5 .r .r .r (.fz (.kx rfl)) .r
theorem rootF_stop : ∀ {f : Nat} {m : Mn}, ¬ m.ts.length > 4 → rootF f m = m
  | 0, _, _ => rfl
  | f + 1, m, h => by rw [rootF, if_neg h]
theorem packL_ge : ∀ (f : Nat) (c : Option Int) (ts : List Tr) (cs : List Int), ts.length ≤ f → ts.length ≤ 3 * (packL f c ts cs).ts.length
  | 0, c, ts, cs, h => by omega
  | f + 1, c, ts, cs, h => by
    rw [packL]
    split
    · rename_i h0; omega
    · rename_i h0
      have h1 := packL_ge f cs[many ts.length - 1]? (ts.drop (many ts.length)) (cs.drop (many ts.length)) (by rw [List.length_drop]; unfold many; split <;> omega)
      have h2 : many ts.length ≤ 3 := by unfold many; split <;> omega
      dsimp only
      rw [List.length_drop] at h1
      rw [List.length_cons]
      omega
theorem pack_ge (m : Mn) : m.ts.length ≤ 3 * (pack m).ts.length := packL_ge _ _ _ _ (Nat.le_refl _)
end Go.Proofs.Ytjjocahgbmibeaa
