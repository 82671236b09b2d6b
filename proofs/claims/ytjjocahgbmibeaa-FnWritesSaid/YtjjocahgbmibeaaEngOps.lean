/- A law for each kind of operation. Printed by a program of this session. -/
import Derived.Test.YtjjocahgbmibeaaEngCal
import Derived.Laws.BitsLemmas
namespace Go.Eng
set_option linter.unusedVariables false
set_option linter.unusedSimpArgs false
/-- An operand's value. -/
def AOpd.lk (env : Env') : AOpd → Option AV
  | .t n => look env n
  | .c v => some v
theorem AOpd.lk_get {env : Env'} {x : AOpd} {v : AV} (h : x.lk env = some v) : x.get (E env) = v := by
  cases x with
  | t n => simp only [AOpd.lk] at h; simp [AOpd.get, E, h]
  | c w => simpa [AOpd.lk, AOpd.get] using h
def lkAll (env : Env') : List (Nat × Nat × AOpd) → Option (List (Nat × Nat × AV))
  | [] => some []
  | (a, b, x) :: l => match x.lk env, lkAll env l with
    | some v, some vs => some ((a, b, v) :: vs)
    | _, _ => none
theorem lkAll_map {env : Env'} : ∀ {qs : List (Nat × Nat × AOpd)} {vs : List (Nat × Nat × AV)}, lkAll env qs = some vs → (qs.map fun p => (p.1, p.2.1, p.2.2.get (E env))) = vs
  | [], vs, h => by obtain rfl := Option.some.inj h; rfl
  | (a, b, x) :: l, vs, h => by
    simp only [lkAll] at h
    split at h
    · rename_i v ws h1 h2
      obtain rfl := Option.some.inj h
      rw [List.map_cons, lkAll_map h2, AOpd.lk_get h1]
    · cases h
def lkAll2 (env : Env') : List (Nat × AOpd) → Option (List (Nat × AV))
  | [] => some []
  | (a, x) :: l => match x.lk env, lkAll2 env l with
    | some v, some vs => some ((a, v) :: vs)
    | _, _ => none
theorem lkAll2_map {env : Env'} : ∀ {qs : List (Nat × AOpd)} {vs : List (Nat × AV)}, lkAll2 env qs = some vs → (qs.map fun p => (p.1, p.2.get (E env))) = vs
  | [], vs, h => by obtain rfl := Option.some.inj h; rfl
  | (a, x) :: l, vs, h => by
    simp only [lkAll2] at h
    split at h
    · rename_i v ws h1 h2
      obtain rfl := Option.some.inj h
      rw [List.map_cons, lkAll2_map h2, AOpd.lk_get h1]
    · cases h
/-- A number's better form; rows that are a list's. -/
class Nm (n : Nat) (m : outParam Nat) : Prop where
  eq : n = m
class Rw (xs : List (List AV)) {β : outParam Type} (l : outParam (List β)) (f : outParam (β → List AV)) : Prop where
  eq : xs = l.map f
instance (priority := low) nm_refl (n : Nat) : Nm n n := ⟨rfl⟩
instance nm_rw (xs : List (List AV)) {β : Type} (l : List β) (f : β → List AV) [h : Rw xs l f] {m : Nat} [h' : Nm l.length m] : Nm xs.length m := ⟨by rw [h.eq, List.length_map]; exact h'.eq⟩
instance (priority := high) nm_app {α : Type} (a b : List α) {m n : Nat} [h : Nm a.length m] [h' : Nm b.length n] : Nm (a ++ b).length (m + n) := ⟨by rw [List.length_append, h.eq, h'.eq]⟩
instance (priority := high) nm_nil {α : Type} : Nm ([] : List α).length 0 := ⟨rfl⟩
instance (priority := high) nm_one {α : Type} (a : α) : Nm [a].length 1 := ⟨rfl⟩
instance rw_map {β : Type} (l : List β) (f : β → List AV) : Rw (l.map f) l f := ⟨rfl⟩
instance rw_app {β : Type} (xs ys : List (List AV)) (l l' : List β) (f : β → List AV) [h : Rw xs l f] [h' : Rw ys l' f] : Rw (xs ++ ys) (l ++ l') f := ⟨by rw [h.eq, h'.eq, List.map_append]⟩
instance (priority := high) rw_nilL {β : Type} (ys : List (List AV)) (l : List β) (f : β → List AV) [h : Rw ys l f] : Rw ([] ++ ys) l f := ⟨by rw [List.nil_append, h.eq]⟩
instance rw_take {β : Type} (xs : List (List AV)) (n : Nat) (l : List β) (f : β → List AV) [h : Rw xs l f] : Rw (xs.take n) (l.take n) f := ⟨by rw [h.eq, List.map_take]⟩
instance rw_drop {β : Type} (xs : List (List AV)) (n : Nat) (l : List β) (f : β → List AV) [h : Rw xs l f] : Rw (xs.drop n) (l.drop n) f := ⟨by rw [h.eq, List.map_drop]⟩
theorem Rw.at {xs : List (List AV)} {β : Type} {l : List β} {f : β → List AV} (h : Rw xs l f) {n : Nat} {a : β} (hc : l[n]? = some a) : xs[n]? = some (f a) := by rw [h.eq, List.getElem?_map, hc]; rfl
theorem getI_nat {α : Type} {xs : List α} {n : Nat} : getI xs (n : Int) = xs[n]? := by simp [getI]
theorem bnd_none {d : Nat} : bndOf d none = some d := rfl
theorem bnd_nat {d n : Nat} {k : IntKind} : bndOf d (some (.i k (n : Int))) = some n := by simp [bndOf]
theorem bnd_int {d : Nat} {k : IntKind} {n : Int} (h : 0 ≤ n) : bndOf d (some (.i k n)) = some n.toNat := by simp [bndOf, h]
theorem wrap64 {n : Int} (h : -9223372036854775808 ≤ n ∧ n ≤ 9223372036854775807) : IntKind.i64.wrap n = n := by
  rw [IntKind.wrap_i64]; omega
theorem runs_guard {Y : EngSys} {fn : AFn} {k : List AItem} {S : St} {i : Nat} {r : AV} {outs : List AV} {rest : List AOper} {tr : List (List Nat × List Nat)} {dr : Bool} {ps : List (Nat × Nat)} {dst : Option Nat} {op : AOp AOpd} {t : Nat} {b : Bool} (hg : look S.env t = some (.b b))
    (h : Runs Y.Γ Y.md Y.X (.at fn (.ops (⟨dst, op, none⟩ :: rest) i tr dr ps :: k) S) r outs) : Runs Y.Γ Y.md Y.X (.at fn (.ops (⟨dst, op, some (t, b)⟩ :: rest) i tr dr ps :: k) S) r outs := by
  have hw : AOper.want ⟨dst, op, some (t, b)⟩ S.e = some true := by
    have : S.e t = .b b := by simp [St.e, hg]
    simp [AOper.want, this]
  have hs : step1 (.ops (⟨dst, op, some (t, b)⟩ :: rest) i tr dr ps :: k) S = step1 (.ops (⟨dst, op, none⟩ :: rest) i tr dr ps :: k) S := by
    simp only [step1, hw, show AOper.want ⟨dst, op, none⟩ S.e = some true from rfl, Option.bind_some]
  cases h with
  | step h h' => exact Runs.step (hs.trans h) h'
  | call h1 h2 h3 h4 h5 h6 h7 => exact Runs.call hw h2 h3 h4 h5 h6 h7
  | weak hn => cases hn
  | fresh _ _ hn => cases hn
/-! Told less exactly. -/
theorem LeF.rw {fl fl' : Bool} {es : Nat} {xs : List (List AV)} {β : Type} {l : List β} {f : β → List AV} [h : Rw xs l f] (hf : fl' = true → fl = true) : LeF (.fro fl es xs) (.fro fl' es (l.map f)) := by
  rw [h.eq]
  refine .fro hf rfl (fun i x y hx hy => by rw [hx] at hy; obtain rfl := Option.some.inj hy; rfl) (fun i x y j u v hx hy hu hv => ?_)
  rw [hx] at hy; obtain rfl := Option.some.inj hy
  rw [hu] at hv; obtain rfl := Option.some.inj hv
  exact .refl
theorem LeF.of {a b : AV} (h : a = b) : LeF a b := h ▸ .refl
theorem LeL.v {q : List Nat} {a b : AV} (h : LeF a b) (hp : a.plain = true) : LeL q a b := .fz h hp
theorem LeO.rw {q : List Nat} {fl fl' : Bool} {es mc : Nat} {xs : List (List AV)} {β : Type} {l : List β} {f : β → List AV} [h : Rw xs l f] (hf : fl' = true → fl = true) : LeO q (.row fl es mc xs) (.row fl' es 0 (l.map f)) := .row (Nat.zero_le _) (.rw hf)
theorem LeB.rw {fl fl' : Bool} {es mc : Nat} {xs : List (List AV)} {β : Type} {l : List β} {f : β → List AV} [h : Rw xs l f] (hf : fl' = true → fl = true) : LeB (.own fl es mc xs) (.own fl' es 0 (l.map f)) := by
  rw [h.eq]
  refine .own hf (Nat.zero_le _) rfl (fun i x y hx hy => by rw [hx] at hy; obtain rfl := Option.some.inj hy; rfl) (fun i x y j u v hx hy hu hv => ?_)
  rw [hx] at hy; obtain rfl := Option.some.inj hy
  rw [hu] at hv; obtain rfl := Option.some.inj hv
  exact .refl
theorem pair1 {α β : Type} {R : α → β → Prop} {a : α} {a' : β} (h : R a a') : ∀ (i : Nat) u v, [a][i]? = some u → [a'][i]? = some v → R u v
  | 0, u, v, hu, hv => by obtain rfl := Option.some.inj hu; obtain rfl := Option.some.inj hv; exact h
  | i + 1, u, v, hu, hv => by simp at hu
theorem pairC {α β : Type} {R : α → β → Prop} {a : α} {a' : β} {as : List α} {bs : List β} (h : R a a') (h' : ∀ (i : Nat) u v, as[i]? = some u → bs[i]? = some v → R u v) : ∀ (i : Nat) u v, (a :: as)[i]? = some u → (a' :: bs)[i]? = some v → R u v
  | 0, u, v, hu, hv => by obtain rfl := Option.some.inj hu; obtain rfl := Option.some.inj hv; exact h
  | i + 1, u, v, hu, hv => h' i u v (by simpa using hu) (by simpa using hv)
theorem pair0 {α β : Type} {R : α → β → Prop} : ∀ (i : Nat) (u : α) (v : β), ([] : List α)[i]? = some u → ([] : List β)[i]? = some v → R u v := fun i u v hu => by simp at hu
theorem LeB.agg2 {a b a' b' : AV} (h1 : LeB a a') (h2 : LeB b b') : LeB (.agg [a, b]) (.agg [a', b']) := .agg rfl (pairC h1 (pair1 h2))
theorem LeB.agg5 {a b c d e a' b' c' d' e' : AV} (h1 : LeB a a') (h2 : LeB b b') (h3 : LeB c c') (h4 : LeB d d') (h5 : LeB e e') : LeB (.agg [a, b, c, d, e]) (.agg [a', b', c', d', e']) := .agg rfl (pairC h1 (pairC h2 (pairC h3 (pairC h4 (pair1 h5)))))
theorem LeB.tup2 {a b a' b' : AV} (h1 : LeB a a') (h2 : LeB b b') : LeB (.tup [a, b]) (.tup [a', b']) := .tup rfl (pairC h1 (pair1 h2))
theorem LeB.tup3 {a b c a' b' c' : AV} (h1 : LeB a a') (h2 : LeB b b') (h3 : LeB c c') : LeB (.tup [a, b, c]) (.tup [a', b', c']) := .tup rfl (pairC h1 (pairC h2 (pair1 h3)))
theorem LeB.be {x y : Bool} (h : x = y) : LeB (.b x) (.b y) := h ▸ .fz .refl
theorem LeB.ie {k : IntKind} {x y : Int} (h : x = y) : LeB (.i k x) (.i k y) := h ▸ .fz .refl
theorem LeB.eq {a b : AV} (h : a = b) : LeB a b := h ▸ .fz .refl
theorem LeB.nilO {fl es} {β : Type} {f : β → List AV} : LeB .emp (.own fl es 0 (([] : List β).map f)) := .empO
theorem LeB.r {a : AV} : LeB a a := .fz .refl
theorem LeBs.n : LeBs [] [] := trivial
theorem LeBs.c {a b : AV} {as bs : List AV} (h : LeB a b) (h' : LeBs as bs) : LeBs (a :: as) (b :: bs) := ⟨h, h'⟩
theorem LeBs.refl : ∀ {as : List AV}, LeBs as as
  | [] => trivial
  | _ :: _ => ⟨.r, LeBs.refl⟩
theorem LeL.agg2 {q : List Nat} {a b a' b' : AV} (h1 : LeL q a a') (h2 : LeL q b b') : LeL q (.agg [a, b]) (.agg [a', b']) := .agg rfl (pairC h1 (pair1 h2))
theorem LeL.tup2 {q : List Nat} {a b a' b' : AV} (h1 : LeL q a a') (h2 : LeL q b b') : LeL q (.tup [a, b]) (.tup [a', b']) := .tup rfl (pairC h1 (pair1 h2))
theorem LeO.same {q : List Nat} {cs : List AV} (h : cs.all AV.plain = true) : LeO q (.box cs) (.box cs) := by
  refine .box rfl fun i u v hu hv => ?_
  rw [hu] at hv; obtain rfl := Option.some.inj hv
  exact .v .refl (List.all_eq_true.1 h u (List.mem_of_getElem? hu))
theorem LeO.box1 {q : List Nat} {a a' : AV} (h1 : LeL q a a') : LeO q (.box [a]) (.box [a']) := .box rfl (pair1 h1)
theorem LeO.box2 {q : List Nat} {a b a' b' : AV} (h1 : LeL q a a') (h2 : LeL q b b') : LeO q (.box [a, b]) (.box [a', b']) := .box rfl (pairC h1 (pair1 h2))
theorem LeO.box3 {q : List Nat} {a b c a' b' c' : AV} (h1 : LeL q a a') (h2 : LeL q b b') (h3 : LeL q c c') : LeO q (.box [a, b, c]) (.box [a', b', c']) := .box rfl (pairC h1 (pairC h2 (pair1 h3)))
theorem LeO.box5 {q : List Nat} {a b c d e a' b' c' d' e' : AV} (h1 : LeL q a a') (h2 : LeL q b b') (h3 : LeL q c c') (h4 : LeL q d d') (h5 : LeL q e e') : LeO q (.box [a, b, c, d, e]) (.box [a', b', c', d', e']) := .box rfl (pairC h1 (pairC h2 (pairC h3 (pairC h4 (pair1 h5)))))
theorem LeM.c {q : List Nat} {m : Mem} {l : List (Nat × AObj)} {k id : Nat} {o o' : AObj} (h1 : q[k]? = some id) (h2 : m id = some o) (h3 : LeO q o o') (h : LeM q m l) : LeM q m ((k, o') :: l) := ⟨⟨id, o, h1, h2, h3⟩, h⟩
/-- What the places of a frame hold, told less exactly. -/
def LeK (q : List Nat) (env : Env') : Env' → Prop
  | [] => True
  | p :: l => (∃ v, look env p.1 = some v ∧ LeL q v p.2) ∧ LeK q env l
theorem LeK.e {q : List Nat} {env : Env'} : ∀ {l : Env'}, LeK q env l → LeE q (Go.Eng.E env) l
  | [], _ => trivial
  | p :: l, ⟨⟨v, h1, h2⟩, h⟩ => ⟨by simp only [Go.Eng.E, h1, Option.getD_some]; exact h2, LeK.e h⟩
theorem LeK.nil {q : List Nat} {env : Env'} : LeK q env [] := trivial
theorem LeK.c {q : List Nat} {env l : Env'} {t : Nat} {v v' : AV} (h1 : look env t = some v) (h2 : LeL q v v') (h : LeK q env l) : LeK q env ((t, v') :: l) := ⟨⟨v, h1, h2⟩, h⟩
theorem LeK.k {q : List Nat} {env l : Env'} {t : Nat} {v : AV} (h1 : look env t = some v) (hp : v.plain = true) (h : LeK q env l) : LeK q env ((t, v) :: l) := .c h1 (.fz .refl hp) h
theorem LeK.x {q : List Nat} {env l : Env'} {t : Nat} {v v' : AV} (h1 : look env t = some v) (he : v = v') (hp : v.plain = true) (h : LeK q env l) : LeK q env ((t, v') :: l) := .c h1 (.fz (.of he) hp) h
theorem LeK.i {q : List Nat} {env l : Env'} {t : Nat} {kk : IntKind} {n n' : Int} (h1 : look env t = some (.i kk n)) (he : n = n') (h : LeK q env l) : LeK q env ((t, .i kk n') :: l) := .c h1 (.fz (.of (by rw [he])) rfl) h
theorem LeK.f {q : List Nat} {env l : Env'} {t : Nat} {v v' : AV} (h1 : look env t = some v) (he : LeF v v') (hp : v.plain = true) (h : LeK q env l) : LeK q env ((t, v') :: l) := .c h1 (.fz he hp) h
theorem LeK.r {q : List Nat} {env l : Env'} {t id m : Nat} (h1 : look env t = some (.row id)) (h2 : q[m]? = some id) (h : LeK q env l) : LeK q env ((t, .row m) :: l) := .c h1 (.row h2) h
theorem LeK.l {q : List Nat} {env l : Env'} {t id m i j j' : Nat} (h1 : look env t = some (.elt id i j)) (hj : j = j') (h2 : q[m]? = some id) (h : LeK q env l) : LeK q env ((t, .elt m i j') :: l) := .c h1 (hj ▸ .elt h2) h
theorem LeK.cl {q : List Nat} {env l : Env'} {t f : Nat} (h1 : look env t = some (.clo f [])) (h : LeK q env l) : LeK q env ((t, .clo f []) :: l) := .c h1 (.clo rfl pair0) h
theorem LeM.nil {q : List Nat} {m : Mem} : LeM q m [] := trivial
theorem LeM.r {q : List Nat} {m : Mem} {l : List (Nat × AObj)} {k id es mc : Nat} {fl fl' : Bool} {xs : List (List AV)} {β : Type} {ls : List β} {f : β → List AV} (h1 : q[k]? = some id) (h2 : m id = some (.row fl es mc xs)) [hw : Rw xs ls f] (hf : fl' = true → fl = true) (h : LeM q m l) : LeM q m ((k, .row fl' es 0 (ls.map f)) :: l) := .c h1 h2 (.rw hf) h
theorem LeM.x {q : List Nat} {m : Mem} {l : List (Nat × AObj)} {k id es mc : Nat} {fl fl' : Bool} {xs ys : List (List AV)} (h1 : q[k]? = some id) (h2 : m id = some (.row fl es mc xs)) (he : xs = ys) (hf : fl' = true → fl = true) (h : LeM q m l) : LeM q m ((k, .row fl' es 0 ys) :: l) := by
  subst he
  refine .c h1 h2 (.row (Nat.zero_le _) ?_) h
  refine .fro hf rfl (fun i x y hx hy => by rw [hx] at hy; obtain rfl := Option.some.inj hy; rfl) (fun i x y j u v hx hy hu hv => ?_)
  rw [hx] at hy; obtain rfl := Option.some.inj hy
  rw [hu] at hv; obtain rfl := Option.some.inj hv
  exact .refl
theorem LeM.b {q : List Nat} {m : Mem} {l : List (Nat × AObj)} {k id : Nat} {cs ds : List AV} (h1 : q[k]? = some id) (h2 : m id = some (.box cs)) (h3 : LeO q (.box cs) (.box ds)) (h : LeM q m l) : LeM q m ((k, .box ds) :: l) := .c h1 h2 h3 h
theorem RA.wq {Y : EngSys} {fn : AFn} {todo : List AItem} {env env' : Env'} {mem mem' : Mem'} {next next' : Nat} {Q : Qst} (q : List Nat) (h : RA Y fn todo env' mem' next' Q) (hn : noOps todo = true) (he : LeK q env env' := by repeat (first | exact .nil | refine .k rfl rfl ?_ | refine .r rfl rfl ?_ | refine .l rfl rfl rfl ?_ | refine .i rfl (by simp) ?_ | refine .f rfl (.rw id) rfl ?_ | refine .f rfl .emp rfl ?_ | refine .cl rfl ?_ | refine .c rfl (.clo rfl (pairC (.v .refl rfl) (pair1 (.v .refl rfl)))) ?_ | refine .c rfl (.clo rfl (pair1 (.v .refl rfl))) ?_)) (hm : LeM q (look mem) mem' := by repeat (first | exact .nil | refine .r rfl rfl (by first | exact fun _ => rfl | exact fun h => by cases h) ?_ | refine .x rfl rfl rfl (by first | exact fun _ => rfl | exact fun h => by cases h) ?_ | refine .b rfl rfl (by first | exact .same rfl | exact .box1 (.v .refl rfl) | exact .box2 (.v .refl rfl) (.v .refl rfl) | exact .box2 (.row rfl) (.row rfl) | exact .box3 (.v .refl rfl) (.v .refl rfl) (.v .refl rfl)) ?_)) (hd : q.Nodup := by decide) (hl : q.length ≤ next' := by decide) : RA Y fn todo env mem next Q := .weak q h hn he.e hm hd hl
theorem RA.wr {Y : EngSys} {fn : AFn} {todo : List AItem} {env env' : Env'} {mem mem' : Mem'} {next next' : Nat} {Q : Qst} (q : List Nat) (h : RA Y fn todo env' mem' next' Q) (hn : noOps todo = true) (he : LeK q env env' := by repeat (first | exact .nil | refine .k rfl rfl ?_ | refine .r rfl rfl ?_ | refine .l rfl rfl rfl ?_ | refine .i rfl (by simp) ?_ | refine .f rfl (.rw id) rfl ?_ | refine .f rfl .emp rfl ?_ | refine .cl rfl ?_ | refine .c rfl (.clo rfl (pairC (.v .refl rfl) (pair1 (.v .refl rfl)))) ?_ | refine .c rfl (.clo rfl (pair1 (.v .refl rfl))) ?_)) (hm : LeM q (look mem) mem') (hd : q.Nodup := by decide) (hl : q.length ≤ next' := by decide) : RA Y fn todo env mem next Q := .weak q h hn he.e hm hd hl
theorem RA.wp {Y : EngSys} {fn : AFn} {todo : List AItem} {env env' : Env'} {mem mem' : Mem'} {next next' : Nat} {Q : Qst} (q : List Nat) (h : RA Y fn todo env' mem' next' Q) (hn : noOps todo = true) (he : LeK q env env') (hm : LeM q (look mem) mem' := by repeat (first | exact .nil | refine .r rfl rfl (by first | exact fun _ => rfl | exact fun h => by cases h) ?_ | refine .x rfl rfl rfl (by first | exact fun _ => rfl | exact fun h => by cases h) ?_ | refine .b rfl rfl (by first | exact .same rfl | exact .box1 (.v .refl rfl) | exact .box2 (.v .refl rfl) (.v .refl rfl) | exact .box2 (.row rfl) (.row rfl) | exact .box3 (.v .refl rfl) (.v .refl rfl) (.v .refl rfl)) ?_)) (hd : q.Nodup := by decide) (hl : q.length ≤ next' := by decide) : RA Y fn todo env mem next Q := .weak q h hn he.e hm hd hl
theorem RA.ws {Y : EngSys} {fn : AFn} {todo : List AItem} {env env' : Env'} {mem mem' : Mem'} {next next' : Nat} {Q : Qst} (q : List Nat) (h : RA Y fn todo env' mem' next' Q) (hn : noOps todo = true) (he : LeK q env env') (hm : LeM q (look mem) mem') (hd : q.Nodup := by decide) (hl : q.length ≤ next' := by decide) : RA Y fn todo env mem next Q := .weak q h hn he.e hm hd hl
/-- What comes in with a value, laid over memory. -/
class ImpC (n : Nat) (cs : List AV) (mem : Mem') (vs : outParam (List AV)) (mem' : outParam Mem') (n' : outParam Nat) : Prop where
  eq : ∃ u, impCells n cs = (vs, u, n') ∧ mem' = u.reverse ++ mem
class ImpV (n : Nat) (a : AV) (mem : Mem') (v : outParam AV) (mem' : outParam Mem') (n' : outParam Nat) : Prop where
  eq : ∃ u, impVal n a = (v, u, n') ∧ mem' = u.reverse ++ mem
class ImpVs (n : Nat) (cs : List AV) (mem : Mem') (vs : outParam (List AV)) (mem' : outParam Mem') (n' : outParam Nat) : Prop where
  eq : ∃ u, impVals n cs = (vs, u, n') ∧ mem' = u.reverse ++ mem
class ImpR (n : Nat) (a : AV) (mem : Mem') (v : outParam AV) (mem' : outParam Mem') (n' : outParam Nat) : Prop where
  eq : ∃ u, impRes n a = (v, u, n') ∧ mem' = u.reverse ++ mem
instance {n : Nat} {mem : Mem'} : ImpC n [] mem [] mem n := ⟨[], rfl, rfl⟩
instance {n : Nat} {mem : Mem'} : ImpVs n [] mem [] mem n := ⟨[], rfl, rfl⟩
instance {n fl es mc xs cs mem vs mem' n'} [h : ImpC (n + 1) cs ((n, .row fl es mc xs) :: mem) vs mem' n'] : ImpC n (.own fl es mc xs :: cs) mem (.row n :: vs) mem' n' := by
  obtain ⟨u, h1, h2⟩ := h.eq
  exact ⟨(n, .row fl es mc xs) :: u, by simp only [impCells, impCell, h1]; rfl, by simp [h2]⟩
theorem impC_plain {n c cs mem vs mem' n'} (hc : impCell n c = (c, [], n)) (h : ImpC n cs mem vs mem' n') : ImpC n (c :: cs) mem (c :: vs) mem' n' := by
  obtain ⟨u, h1, h2⟩ := h.eq
  exact ⟨u, by simp only [impCells, hc, h1]; rfl, h2⟩
instance {n k x cs mem vs mem' n'} [h : ImpC n cs mem vs mem' n'] : ImpC n (.i k x :: cs) mem (.i k x :: vs) mem' n' := impC_plain rfl h
instance {n x cs mem vs mem' n'} [h : ImpC n cs mem vs mem' n'] : ImpC n (.b x :: cs) mem (.b x :: vs) mem' n' := impC_plain rfl h
instance {n x cs mem vs mem' n'} [h : ImpC n cs mem vs mem' n'] : ImpC n (.s x :: cs) mem (.s x :: vs) mem' n' := impC_plain rfl h
instance {n cs mem vs mem' n'} [h : ImpC n cs mem vs mem' n'] : ImpC n (.emp :: cs) mem (.emp :: vs) mem' n' := impC_plain rfl h
instance {n fl es xs cs mem vs mem' n'} [h : ImpC n cs mem vs mem' n'] : ImpC n (.fro fl es xs :: cs) mem (.fro fl es xs :: vs) mem' n' := impC_plain rfl h
instance {n cs mem vs mem' n'} [h : ImpC n cs mem vs mem' n'] : ImpC n (.junk :: cs) mem (.junk :: vs) mem' n' := impC_plain rfl h
instance {n k x mem} : ImpV n (.i k x) mem (.i k x) mem n := ⟨[], rfl, rfl⟩
instance {n x mem} : ImpV n (.b x) mem (.b x) mem n := ⟨[], rfl, rfl⟩
instance {n x mem} : ImpV n (.s x) mem (.s x) mem n := ⟨[], rfl, rfl⟩
instance {n mem} : ImpV n .emp mem .emp mem n := ⟨[], rfl, rfl⟩
instance {n fl es xs mem} : ImpV n (.fro fl es xs) mem (.fro fl es xs) mem n := ⟨[], rfl, rfl⟩
instance {n f cs mem} : ImpV n (.clo f cs) mem (.clo f cs) mem n := ⟨[], rfl, rfl⟩
instance {n cs j mem} : ImpV n (.fptr cs j) mem (.fptr cs j) mem n := ⟨[], rfl, rfl⟩
instance {n mem} : ImpV n .junk mem .junk mem n := ⟨[], rfl, rfl⟩
instance {n fl es mc xs mem} : ImpV n (.own fl es mc xs) mem (.row n) ((n, .row fl es mc xs) :: mem) (n + 1) := ⟨[_], rfl, rfl⟩
instance {n cs mem vs mem' n'} [h : ImpC n cs mem vs mem' n'] : ImpV n (.agg cs) mem (.agg vs) mem' n' := by
  obtain ⟨u, h1, h2⟩ := h.eq
  exact ⟨u, by simp only [impVal, h1], h2⟩
instance {n cs j mem vs mem' n'} [h : ImpC (n + 1) cs mem vs mem' n'] : ImpV n (.obx cs j) mem (.elt n 0 j) ((n, .box vs) :: mem') n' := by
  obtain ⟨u, h1, h2⟩ := h.eq
  exact ⟨u ++ [(n, .box vs)], by simp only [impVal, h1], by simp [h2]⟩
instance {n a as mem v mem1 n1 vs mem2 n2} [h : ImpV n a mem v mem1 n1] [h' : ImpVs n1 as mem1 vs mem2 n2] : ImpVs n (a :: as) mem (v :: vs) mem2 n2 := by
  obtain ⟨u, h1, h2⟩ := h.eq
  obtain ⟨u', h3, h4⟩ := h'.eq
  exact ⟨u ++ u', by simp only [impVals, h1, h3], by simp [h2, h4]⟩
instance {n cs mem vs mem' n'} [h : ImpVs n cs mem vs mem' n'] : ImpR n (.tup cs) mem (.tup vs) mem' n' := by
  obtain ⟨u, h1, h2⟩ := h.eq
  exact ⟨u, by simp only [impRes, h1], h2⟩
theorem impR_v {n a mem v mem' n'} (ht : impRes n a = impVal n a) (h : ImpV n a mem v mem' n') : ImpR n a mem v mem' n' := by
  obtain ⟨u, h1, h2⟩ := h.eq
  exact ⟨u, ht.trans h1, h2⟩
instance {n k x mem} : ImpR n (.i k x) mem (.i k x) mem n := ⟨[], rfl, rfl⟩
instance {n x mem} : ImpR n (.b x) mem (.b x) mem n := ⟨[], rfl, rfl⟩
instance {n x mem} : ImpR n (.s x) mem (.s x) mem n := ⟨[], rfl, rfl⟩
instance {n mem} : ImpR n .emp mem .emp mem n := ⟨[], rfl, rfl⟩
instance {n fl es xs mem} : ImpR n (.fro fl es xs) mem (.fro fl es xs) mem n := ⟨[], rfl, rfl⟩
instance {n fl es mc xs mem} : ImpR n (.own fl es mc xs) mem (.row n) ((n, .row fl es mc xs) :: mem) (n + 1) := ⟨[_], rfl, rfl⟩
instance {n cs mem vs mem' n'} [h : ImpV n (.agg cs) mem vs mem' n'] : ImpR n (.agg cs) mem vs mem' n' := impR_v rfl h
instance {n cs j mem vs mem' n'} [h : ImpV n (.obx cs j) mem vs mem' n'] : ImpR n (.obx cs j) mem vs mem' n' := impR_v rfl h
/-- A frame's start. -/
theorem RFx.start {Y : EngSys} {f : Nat} {fn : AFn} {as vs : List AV} {mem : Mem'} {n : Nat} {Q : Qst} [hi : ImpVs 0 as [] vs mem n] (h : Y.Γ f = some fn) (hm : Y.md f = fn.modes) (hl : fn.modes.length = as.length)
    (h' : RA Y fn [.code fn.code] (vs.zipIdx.map fun p => (p.2, p.1)) mem n Q) : RFx Y f as Q := by
  obtain ⟨u, h1, h2⟩ := hi.eq
  refine RFx.go h hm hl ?_
  rw [h1]
  have e : (List.range vs.length).zip vs = vs.zipIdx.map fun p => (p.2, p.1) := by
    apply List.ext_getElem <;> simp
  dsimp only
  rw [e]
  simpa [h2] using h'
theorem RFx.s1 {Y : EngSys} {f : Nat} {fn : AFn} {as : List AV} {a : AV} {mem : Mem'} {n : Nat} {Q : Qst} [hi : ImpVs 0 as [] [a] mem n] (h : Y.Γ f = some fn) (hm : Y.md f = fn.modes) (hl : fn.modes.length = as.length) (h' : RA Y fn [.code fn.code] [(0, a)] mem n Q) : RFx Y f as Q := .start (vs := [a]) h hm hl h'
theorem RF.s1 {Y : EngSys} {f : Nat} {fn : AFn} {as : List AV} {a : AV} {mem : Mem'} {n : Nat} {r : AV} {outs : List AV} [hi : ImpVs 0 as [] [a] mem n] (h : Y.Γ f = some fn) (hm : Y.md f = fn.modes) (hl : fn.modes.length = as.length) (h' : ∀ Q : Qst, Q r outs → RA Y fn [.code fn.code] [(0, a)] mem n Q) : RF Y f as r outs := .x (.s1 h hm hl (h' _ ⟨rfl, rfl⟩))
theorem RFx.s2 {Y : EngSys} {f : Nat} {fn : AFn} {as : List AV} {a b : AV} {mem : Mem'} {n : Nat} {Q : Qst} [hi : ImpVs 0 as [] [a, b] mem n] (h : Y.Γ f = some fn) (hm : Y.md f = fn.modes) (hl : fn.modes.length = as.length) (h' : RA Y fn [.code fn.code] [(0, a), (1, b)] mem n Q) : RFx Y f as Q := .start (vs := [a, b]) h hm hl h'
theorem RF.s2 {Y : EngSys} {f : Nat} {fn : AFn} {as : List AV} {a b : AV} {mem : Mem'} {n : Nat} {r : AV} {outs : List AV} [hi : ImpVs 0 as [] [a, b] mem n] (h : Y.Γ f = some fn) (hm : Y.md f = fn.modes) (hl : fn.modes.length = as.length) (h' : ∀ Q : Qst, Q r outs → RA Y fn [.code fn.code] [(0, a), (1, b)] mem n Q) : RF Y f as r outs := .x (.s2 h hm hl (h' _ ⟨rfl, rfl⟩))
theorem RFx.s3 {Y : EngSys} {f : Nat} {fn : AFn} {as : List AV} {a b c : AV} {mem : Mem'} {n : Nat} {Q : Qst} [hi : ImpVs 0 as [] [a, b, c] mem n] (h : Y.Γ f = some fn) (hm : Y.md f = fn.modes) (hl : fn.modes.length = as.length) (h' : RA Y fn [.code fn.code] [(0, a), (1, b), (2, c)] mem n Q) : RFx Y f as Q := .start (vs := [a, b, c]) h hm hl h'
theorem RF.s3 {Y : EngSys} {f : Nat} {fn : AFn} {as : List AV} {a b c : AV} {mem : Mem'} {n : Nat} {r : AV} {outs : List AV} [hi : ImpVs 0 as [] [a, b, c] mem n] (h : Y.Γ f = some fn) (hm : Y.md f = fn.modes) (hl : fn.modes.length = as.length) (h' : ∀ Q : Qst, Q r outs → RA Y fn [.code fn.code] [(0, a), (1, b), (2, c)] mem n Q) : RF Y f as r outs := .x (.s3 h hm hl (h' _ ⟨rfl, rfl⟩))
theorem RFx.s4 {Y : EngSys} {f : Nat} {fn : AFn} {as : List AV} {a b c d : AV} {mem : Mem'} {n : Nat} {Q : Qst} [hi : ImpVs 0 as [] [a, b, c, d] mem n] (h : Y.Γ f = some fn) (hm : Y.md f = fn.modes) (hl : fn.modes.length = as.length) (h' : RA Y fn [.code fn.code] [(0, a), (1, b), (2, c), (3, d)] mem n Q) : RFx Y f as Q := .start (vs := [a, b, c, d]) h hm hl h'
theorem RF.s4 {Y : EngSys} {f : Nat} {fn : AFn} {as : List AV} {a b c d : AV} {mem : Mem'} {n : Nat} {r : AV} {outs : List AV} [hi : ImpVs 0 as [] [a, b, c, d] mem n] (h : Y.Γ f = some fn) (hm : Y.md f = fn.modes) (hl : fn.modes.length = as.length) (h' : ∀ Q : Qst, Q r outs → RA Y fn [.code fn.code] [(0, a), (1, b), (2, c), (3, d)] mem n Q) : RF Y f as r outs := .x (.s4 h hm hl (h' _ ⟨rfl, rfl⟩))
def newKeys (mem' mem : Mem') : List Nat := ((mem'.take (mem'.length - mem.length)).map (·.1)).reverse
theorem newKeys_app (a mem : Mem') : newKeys (a ++ mem) mem = (a.map (·.1)).reverse := by simp [newKeys]
theorem fin_of {nid : Nat} {m : Mem} {mem : Mem'} {md : List Bool} {args outs' : List AV} {d z ub : Ups} {sn : List Nat} {r v : AV} {mem' : Mem'} {n1 n2 : Nat} (hi : ImpR nid r mem v mem' n1) (hb : backs n1 m md args outs' = some (ub, n2))
    (hz : (if r.leads || outs'.any AV.leads then freezeIds (putM m d) sn else if liveIds (putM m d) sn then some [] else none) = some z) (hn : n2 ≤ nid + 16) : ∃ ui, mem' = ui.reverse ++ mem ∧ fin nid m md args d sn r outs' = some (v, d ++ z ++ ui ++ ub) := by
  obtain ⟨ui, h1, h2⟩ := hi.eq
  refine ⟨ui, h2, ?_⟩
  simp only [fin, h1, hb, hz, Option.bind_some, if_pos hn]
section
variable {Y : EngSys} {fn : AFn} {k k' : List AItem} {env : Env'} {mem : Mem'} {next i : Nat} {Q : Qst} {ops rest : List AOper} {tr : List (List Nat × List Nat)} {ps : List (Nat × Nat)} {d : Nat} {op : AOp AOpd} {v : AV}

theorem fz_plain {m : Mem} : ∀ {cs : List AV}, cs.all AV.plain = true → fzCells m cs = some (cs, [])
  | [], _ => rfl
  | c :: cs, h => by
    simp only [List.all_cons, Bool.and_eq_true] at h
    have h1 : fzCell m c = some (c, []) := by
      cases c <;> simp_all [AV.plain, fzCell]
    simp [fzCells, h1, fz_plain h.2, putM]
theorem ld_one {cs : List AV} {j : Nat} {v : AV} (h : cs[j]? = some v) : one false ((cs.drop j).take 1) = some v := by
  obtain ⟨hj, rfl⟩ := List.getElem?_eq_some_iff.1 h
  rw [List.take_one, List.head?_drop, List.getElem?_eq_getElem hj]; rfl
theorem lay_one {α : Type} {cs : List α} {j : Nat} {v : α} (h : j < cs.length) : lay cs j [v] = cs.set j v := by
  unfold lay; rw [List.set_eq_take_append_cons_drop, if_pos h]; simp
theorem lay_all {α : Type} {cs ds : List α} (h : cs.length = ds.length) : lay cs 0 ds = ds := by
  unfold lay; simp [← h]
theorem and_lo (a : Int) (n : Nat) (hn : n < 9223372036854775808) : 0 ≤ IntKind.i64.wrap ((BitVec.ofInt 64 a &&& BitVec.ofInt 64 n).toNat : Int) ∧ IntKind.i64.wrap ((BitVec.ofInt 64 a &&& BitVec.ofInt 64 n).toNat : Int) ≤ n := by
  have h2 : (BitVec.ofInt 64 (n : Int)).toNat = n := by
    rw [BitVec.toNat_ofInt]; omega
  have h1 : (BitVec.ofInt 64 a &&& BitVec.ofInt 64 n).toNat ≤ n := by
    rw [BitVec.toNat_and, h2]; exact Nat.and_le_right
  rw [wrap64 (by omega)]; omega
theorem ba_ext {a b : ByteArray} (h : a.toList = b.toList) : a = b := by
  rw [ByteArray.toList_eq, ByteArray.toList_eq] at h
  cases a; cases b; simp_all

theorem RO.mv {x : AOpd} (h : ops = ⟨some d, .mv x, none⟩ :: rest) (hx : x.lk env = some v) (h' : RO Y fn rest (i + 1) k ((d, v) :: env) mem next Q) : RO Y fn ops i k env mem next Q :=
  RO.p h (by simp [AOp.map, act, AOpd.lk_get hx]) h'
theorem RO.pickT {c x y : AOpd} (h : ops = ⟨some d, .pick c x y, none⟩ :: rest) (hc : c.lk env = some (.b true)) (hx : x.lk env = some v) (h' : RO Y fn rest (i + 1) k ((d, v) :: env) mem next Q) : RO Y fn ops i k env mem next Q :=
  RO.p h (by simp [AOp.map, act, AOpd.lk_get hc, AOpd.lk_get hx]) h'
theorem RO.pickF {c x y : AOpd} (h : ops = ⟨some d, .pick c x y, none⟩ :: rest) (hc : c.lk env = some (.b false)) (hy : y.lk env = some v) (h' : RO Y fn rest (i + 1) k ((d, v) :: env) mem next Q) : RO Y fn ops i k env mem next Q :=
  RO.p h (by simp [AOp.map, act, AOpd.lk_get hc, AOpd.lk_get hy]) h'
theorem RO.new {z : List AV} (h : ops = ⟨some d, .new z, none⟩ :: rest)  (h' : RO Y fn rest (i + 1) k ((d, .elt (next + 16 * i) 0 0) :: env) ((next + 16 * i, .box z) :: mem) next Q) : RO Y fn ops i k env mem next Q :=
  RO.u1 h (by simp [AOp.map, act]) h'
theorem RO.box {x : AOpd} {cs : List AV} (h : ops = ⟨some d, .box x, none⟩ :: rest) (hx : x.lk env = some v) (hc : v.cells = some cs) (h' : RO Y fn rest (i + 1) k ((d, .elt (next + 16 * i) 0 0) :: env) ((next + 16 * i, .box cs) :: mem) next Q) : RO Y fn ops i k env mem next Q :=
  RO.u1 h (by simp [AOp.map, act, AOpd.lk_get hx, hc]) h'
theorem RO.build {z cs : List AV} {qs : List (Nat × Nat × AOpd)} {vs : List (Nat × Nat × AV)} (h : ops = ⟨some d, .build z qs, none⟩ :: rest) (hv : lkAll env qs = some vs) (hb : buildOf z vs = some cs) (h' : RO Y fn rest (i + 1) k ((d, .agg cs) :: env) mem next Q) : RO Y fn ops i k env mem next Q :=
  RO.p h (by simp [AOp.map, act, lkAll_map hv, hb]) h'
theorem RO.row0 {es : Nat} {z : List AV} (h : ops = ⟨some d, .rowOf es z 0 [], none⟩ :: rest) (hz : z.length = es) (hl : z.all AV.lit = true) (h' : RO Y fn rest (i + 1) k ((d, .row (next + 16 * i)) :: env) ((next + 16 * i, .row true es 0 []) :: mem) next Q) : RO Y fn ops i k env mem next Q :=
  RO.u1 h (by subst hz; simp [AOp.map, act, rowParts, litRow]; simpa using hl) h'
theorem RO.row1 {es : Nat} {z cs qs : List AV} {x : AOpd} {u : Ups} {fl : Bool} (h : ops = ⟨some d, .rowOf es z 1 [(0, x)], none⟩ :: rest) (hx : x.lk env = some v) (hc : v.cells = some cs) (hn : cs.length = es) (hz : z.length = es) (hl : z.all AV.lit = true) (hf : fzCells (look mem) cs = some (qs, u)) (hq : qs.all AV.lit = fl) (h' : RO Y fn rest (i + 1) k ((d, .row (next + 16 * i)) :: env) ((u ++ [(next + 16 * i, .row fl es 1 [qs])] : Ups).reverse ++ mem) next Q) : RO Y fn ops i k env mem next Q :=
  RO.u h (by subst hz; subst hq; simp [AOp.map, act, rowParts, AOpd.lk_get hx, hc, hn, hf, litRow]; simpa using hl) h'
theorem RO.row1P {es : Nat} {z cs : List AV} {x : AOpd} {fl : Bool} (h : ops = ⟨some d, .rowOf es z 1 [(0, x)], none⟩ :: rest) (hx : x.lk env = some v) (hc : v.cells = some cs) (hn : cs.length = es) (hz : z.length = es) (hl : z.all AV.lit = true) (hp : cs.all AV.plain = true) (hq : cs.all AV.lit = fl) (h' : RO Y fn rest (i + 1) k ((d, .row (next + 16 * i)) :: env) ((next + 16 * i, .row fl es 1 [cs]) :: mem) next Q) : RO Y fn ops i k env mem next Q :=
  RO.u1 h (by subst hz; subst hq; simp [AOp.map, act, rowParts, AOpd.lk_get hx, hc, hn, fz_plain hp, litRow]; simpa using hl) h'
theorem RO.rows {es n : Nat} {z : List AV} {qs : List (Nat × AOpd)} {vs : List (Nat × AV)} {xs : List (List AV)} {u : Ups} {fl : Bool} (h : ops = ⟨some d, .rowOf es z n qs, none⟩ :: rest) (hz : z.length = es) (hl : z.all AV.lit = true) (hv : lkAll2 env qs = some vs) (hf : rowParts (look mem) es n (List.replicate n z) vs = some (xs, u)) (hq : litRow xs = fl) (h' : RO Y fn rest (i + 1) k ((d, .row (next + 16 * i)) :: env) ((u ++ [(next + 16 * i, .row fl es n xs)] : Ups).reverse ++ mem) next Q) : RO Y fn ops i k env mem next Q :=
  RO.u h (by subst hz; subst hq; simp [AOp.map, act, lkAll2_map hv, hf]; simpa using hl) h'
theorem RO.ldE {x : AOpd} {id j : Nat} {cs : List AV} (h : ops = ⟨some d, .ld 1 false x, none⟩ :: rest) (hx : x.lk env = some (.elt id 0 j)) (hm : look mem id = some (.box cs)) (hv : cs[j]? = some v) (h' : RO Y fn rest (i + 1) k ((d, v) :: env) mem next Q) : RO Y fn ops i k env mem next Q :=
  RO.p h (by have hj := (List.getElem?_eq_some_iff.1 hv).1; simp [AOp.map, act, ptrCells, AOpd.lk_get hx, hm, ld_one hv]; omega) h'
theorem RO.ldF {x : AOpd} {j : Nat} {cs : List AV} (h : ops = ⟨some d, .ld 1 false x, none⟩ :: rest) (hx : x.lk env = some (.fptr cs j)) (hv : cs[j]? = some v) (h' : RO Y fn rest (i + 1) k ((d, v) :: env) mem next Q) : RO Y fn ops i k env mem next Q :=
  RO.p h (by have hj := (List.getElem?_eq_some_iff.1 hv).1; simp [AOp.map, act, ptrCells, AOpd.lk_get hx, ld_one hv]; omega) h'
theorem RO.ldR {x : AOpd} {id n j es mc : Nat} {fl : Bool} {cs : List AV} {xs : List (List AV)} (h : ops = ⟨some d, .ld 1 false x, none⟩ :: rest) (hx : x.lk env = some (.elt id n j)) (hm : look mem id = some (.row fl es mc xs)) (hc : xs[n]? = some cs) (hv : cs[j]? = some v) (h' : RO Y fn rest (i + 1) k ((d, v) :: env) mem next Q) : RO Y fn ops i k env mem next Q :=
  RO.p h (by have hj := (List.getElem?_eq_some_iff.1 hv).1; simp [AOp.map, act, ptrCells, AOpd.lk_get hx, hm, hc, ld_one hv]; omega) h'
theorem RO.aE {x : AOpd} {id sz : Nat} {cs : List AV} (h : ops = ⟨some d, .ld sz true x, none⟩ :: rest) (hx : x.lk env = some (.elt id 0 0)) (hm : look mem id = some (.box cs)) (hl : cs.length = sz) (h' : RO Y fn rest (i + 1) k ((d, .agg cs) :: env) mem next Q) : RO Y fn ops i k env mem next Q :=
  RO.p h (by subst hl; simp [AOp.map, act, ptrCells, AOpd.lk_get hx, hm, one]) h'
theorem RO.aF {x : AOpd} {sz : Nat} {cs : List AV} (h : ops = ⟨some d, .ld sz true x, none⟩ :: rest) (hx : x.lk env = some (.fptr cs 0)) (hl : cs.length = sz) (h' : RO Y fn rest (i + 1) k ((d, .agg cs) :: env) mem next Q) : RO Y fn ops i k env mem next Q :=
  RO.p h (by subst hl; simp [AOp.map, act, ptrCells, AOpd.lk_get hx, one]) h'
theorem RO.aR {x : AOpd} {id n sz es mc : Nat} {fl : Bool} {cs : List AV} {xs : List (List AV)} (h : ops = ⟨some d, .ld sz true x, none⟩ :: rest) (hx : x.lk env = some (.elt id n 0)) (hm : look mem id = some (.row fl es mc xs)) (hc : xs[n]? = some cs) (hl : cs.length = sz) (h' : RO Y fn rest (i + 1) k ((d, .agg cs) :: env) mem next Q) : RO Y fn ops i k env mem next Q :=
  RO.p h (by subst hl; simp [AOp.map, act, ptrCells, AOpd.lk_get hx, hm, hc, one]) h'
theorem RO.aP {x : AOpd} {sz j : Nat} {cs ds : List AV} {p : AV} (h : ops = ⟨some d, .ld sz true x, none⟩ :: rest) (hp : ptrCells (look mem) p = some (cs, j)) (hx : x.lk env = some p) (hd : (cs.drop j).take sz = ds) (hl : j + sz ≤ cs.length) (h' : RO Y fn rest (i + 1) k ((d, .agg ds) :: env) mem next Q) : RO Y fn ops i k env mem next Q :=
  RO.p h (by simp [AOp.map, act, AOpd.lk_get hx, hp, one, hd, hl]) h'
theorem RO.st1 {x y : AOpd} {id j : Nat} {cs : List AV} (h : ops = ⟨none, .st 1 x y, none⟩ :: rest) (hx : x.lk env = some (.elt id 0 j)) (hy : y.lk env = some v) (hv : v.cells = some [v]) (hm : look mem id = some (.box cs)) (hj : j < cs.length) (h' : RO Y fn rest (i + 1) k env ((id, .box (cs.set j v)) :: mem) next Q) : RO Y fn ops i k env mem next Q :=
  RO.n1 (v := .junk) h (by have hj' : j + 1 ≤ cs.length := hj; simp [AOp.map, act, AOpd.lk_get hx, AOpd.lk_get hy, hv, hm, lay_one hj, hj']) h'
theorem RO.stA {x y : AOpd} {id sz : Nat} {cs ds : List AV} (h : ops = ⟨none, .st sz x y, none⟩ :: rest) (hx : x.lk env = some (.elt id 0 0)) (hy : y.lk env = some (.agg ds)) (hm : look mem id = some (.box cs)) (hl : cs.length = sz) (hd : ds.length = sz) (h' : RO Y fn rest (i + 1) k env ((id, .box ds) :: mem) next Q) : RO Y fn ops i k env mem next Q :=
  RO.n1 (v := .junk) h (by subst hl; simp [AOp.map, act, AOpd.lk_get hx, AOpd.lk_get hy, AV.cells, hd, hm, lay_all hd.symm]) h'
theorem RO.stR {x y : AOpd} {id n j sz es mc : Nat} {fl : Bool} {xs : List (List AV)} {cs ds qs : List AV} (h : ops = ⟨none, .st sz x y, none⟩ :: rest) (hx : x.lk env = some (.elt id n j)) (hy : y.lk env = some v) (hv : v.cells = some ds) (hd : ds.length = sz) (hm : look mem id = some (.row fl es mc xs)) (hp : ds.all AV.plain = true) (hc : xs[n]? = some cs) (hl : j + sz ≤ cs.length) (hq : lay cs j ds = qs) (h' : RO Y fn rest (i + 1) k env ((id, .row (fl && ds.all AV.lit) es mc (xs.set n qs)) :: mem) next Q) : RO Y fn ops i k env mem next Q :=
  RO.n1 (v := .junk) h (by simp [AOp.map, act, AOpd.lk_get hx, AOpd.lk_get hy, hv, hd, hm, fz_plain hp, hc, hl, hq]) h'
theorem RO.nc {x : AOpd} {id n j : Nat} (h : ops = ⟨some d, .nc x, none⟩ :: rest) (hx : x.lk env = some (.elt id n j)) (h' : RO Y fn rest (i + 1) k ((d, .elt id n j) :: env) mem next Q) : RO Y fn ops i k env mem next Q :=
  RO.p h (by simp [AOp.map, act, AOpd.lk_get hx]) h'
theorem RO.add {x y : AOpd} {a b : Int} (h : ops = ⟨some d, .bin .add x y, none⟩ :: rest) (hx : x.lk env = some (.i .i64 a)) (hy : y.lk env = some (.i .i64 b)) (hb : -9223372036854775808 ≤ a + b ∧ a + b ≤ 9223372036854775807) (h' : RO Y fn rest (i + 1) k ((d, .i .i64 (a + b)) :: env) mem next Q) : RO Y fn ops i k env mem next Q :=
  RO.p h (by simp [AOp.map, act, AOpd.lk_get hx, AOpd.lk_get hy, binOf, binI, wrap64 hb]) h'
theorem RO.sub {x y : AOpd} {a b : Int} (h : ops = ⟨some d, .bin .sub x y, none⟩ :: rest) (hx : x.lk env = some (.i .i64 a)) (hy : y.lk env = some (.i .i64 b)) (hb : -9223372036854775808 ≤ a - b ∧ a - b ≤ 9223372036854775807) (h' : RO Y fn rest (i + 1) k ((d, .i .i64 (a - b)) :: env) mem next Q) : RO Y fn ops i k env mem next Q :=
  RO.p h (by simp [AOp.map, act, AOpd.lk_get hx, AOpd.lk_get hy, binOf, binI, wrap64 hb]) h'
theorem RO.mul {x y : AOpd} {a b : Int} (h : ops = ⟨some d, .bin .mul x y, none⟩ :: rest) (hx : x.lk env = some (.i .i64 a)) (hy : y.lk env = some (.i .i64 b)) (hb : -9223372036854775808 ≤ a * b ∧ a * b ≤ 9223372036854775807) (h' : RO Y fn rest (i + 1) k ((d, .i .i64 (a * b)) :: env) mem next Q) : RO Y fn ops i k env mem next Q :=
  RO.p h (by simp [AOp.map, act, AOpd.lk_get hx, AOpd.lk_get hy, binOf, binI, wrap64 hb]) h'
theorem RO.rem {x y : AOpd} {a b : Int} (h : ops = ⟨some d, .bin .rem x y, none⟩ :: rest) (hx : x.lk env = some (.i .i64 a)) (hy : y.lk env = some (.i .i64 b)) (hb : b ≠ 0) (h' : RO Y fn rest (i + 1) k ((d, .i .i64 (a.tmod b)) :: env) mem next Q) : RO Y fn ops i k env mem next Q :=
  RO.p h (by simp [AOp.map, act, AOpd.lk_get hx, AOpd.lk_get hy, binOf, binI, hb]) h'
theorem RO.quo {x y : AOpd} {a b : Int} (h : ops = ⟨some d, .bin .quo x y, none⟩ :: rest) (hx : x.lk env = some (.i .i64 a)) (hy : y.lk env = some (.i .i64 b)) (h0 : b ≠ 0) (hb : -9223372036854775808 ≤ a.tdiv b ∧ a.tdiv b ≤ 9223372036854775807) (h' : RO Y fn rest (i + 1) k ((d, .i .i64 (a.tdiv b)) :: env) mem next Q) : RO Y fn ops i k env mem next Q :=
  RO.p h (by simp [AOp.map, act, AOpd.lk_get hx, AOpd.lk_get hy, binOf, binI, h0, wrap64 hb]) h'
theorem RO.lssT {x y : AOpd} {kk : IntKind} {a b : Int} (h : ops = ⟨some d, .bin .lss x y, none⟩ :: rest) (hx : x.lk env = some (.i kk a)) (hy : y.lk env = some (.i kk b)) (hp : a < b) (h' : RO Y fn rest (i + 1) k ((d, .b true) :: env) mem next Q) : RO Y fn ops i k env mem next Q :=
  RO.p h (by simp [AOp.map, act, AOpd.lk_get hx, AOpd.lk_get hy, binOf, binI, hp]) h'
theorem RO.lssF {x y : AOpd} {kk : IntKind} {a b : Int} (h : ops = ⟨some d, .bin .lss x y, none⟩ :: rest) (hx : x.lk env = some (.i kk a)) (hy : y.lk env = some (.i kk b)) (hp : ¬ (a < b)) (h' : RO Y fn rest (i + 1) k ((d, .b false) :: env) mem next Q) : RO Y fn ops i k env mem next Q :=
  RO.p h (by simp [AOp.map, act, AOpd.lk_get hx, AOpd.lk_get hy, binOf, binI]; simpa using hp) h'
theorem RO.leqT {x y : AOpd} {kk : IntKind} {a b : Int} (h : ops = ⟨some d, .bin .leq x y, none⟩ :: rest) (hx : x.lk env = some (.i kk a)) (hy : y.lk env = some (.i kk b)) (hp : a ≤ b) (h' : RO Y fn rest (i + 1) k ((d, .b true) :: env) mem next Q) : RO Y fn ops i k env mem next Q :=
  RO.p h (by simp [AOp.map, act, AOpd.lk_get hx, AOpd.lk_get hy, binOf, binI, hp]) h'
theorem RO.leqF {x y : AOpd} {kk : IntKind} {a b : Int} (h : ops = ⟨some d, .bin .leq x y, none⟩ :: rest) (hx : x.lk env = some (.i kk a)) (hy : y.lk env = some (.i kk b)) (hp : ¬ (a ≤ b)) (h' : RO Y fn rest (i + 1) k ((d, .b false) :: env) mem next Q) : RO Y fn ops i k env mem next Q :=
  RO.p h (by simp [AOp.map, act, AOpd.lk_get hx, AOpd.lk_get hy, binOf, binI]; simpa using hp) h'
theorem RO.gtrT {x y : AOpd} {kk : IntKind} {a b : Int} (h : ops = ⟨some d, .bin .gtr x y, none⟩ :: rest) (hx : x.lk env = some (.i kk a)) (hy : y.lk env = some (.i kk b)) (hp : a > b) (h' : RO Y fn rest (i + 1) k ((d, .b true) :: env) mem next Q) : RO Y fn ops i k env mem next Q :=
  RO.p h (by simp [AOp.map, act, AOpd.lk_get hx, AOpd.lk_get hy, binOf, binI, hp]) h'
theorem RO.gtrF {x y : AOpd} {kk : IntKind} {a b : Int} (h : ops = ⟨some d, .bin .gtr x y, none⟩ :: rest) (hx : x.lk env = some (.i kk a)) (hy : y.lk env = some (.i kk b)) (hp : ¬ (a > b)) (h' : RO Y fn rest (i + 1) k ((d, .b false) :: env) mem next Q) : RO Y fn ops i k env mem next Q :=
  RO.p h (by simp [AOp.map, act, AOpd.lk_get hx, AOpd.lk_get hy, binOf, binI]; simpa using hp) h'
theorem RO.geqT {x y : AOpd} {kk : IntKind} {a b : Int} (h : ops = ⟨some d, .bin .geq x y, none⟩ :: rest) (hx : x.lk env = some (.i kk a)) (hy : y.lk env = some (.i kk b)) (hp : a ≥ b) (h' : RO Y fn rest (i + 1) k ((d, .b true) :: env) mem next Q) : RO Y fn ops i k env mem next Q :=
  RO.p h (by simp [AOp.map, act, AOpd.lk_get hx, AOpd.lk_get hy, binOf, binI, hp]) h'
theorem RO.geqF {x y : AOpd} {kk : IntKind} {a b : Int} (h : ops = ⟨some d, .bin .geq x y, none⟩ :: rest) (hx : x.lk env = some (.i kk a)) (hy : y.lk env = some (.i kk b)) (hp : ¬ (a ≥ b)) (h' : RO Y fn rest (i + 1) k ((d, .b false) :: env) mem next Q) : RO Y fn ops i k env mem next Q :=
  RO.p h (by simp [AOp.map, act, AOpd.lk_get hx, AOpd.lk_get hy, binOf, binI]; simpa using hp) h'
theorem RO.eqlT {x y : AOpd} {kk : IntKind} {a b : Int} (h : ops = ⟨some d, .bin .eql x y, none⟩ :: rest) (hx : x.lk env = some (.i kk a)) (hy : y.lk env = some (.i kk b)) (hp : a = b) (h' : RO Y fn rest (i + 1) k ((d, .b true) :: env) mem next Q) : RO Y fn ops i k env mem next Q :=
  RO.p h (by simp [AOp.map, act, AOpd.lk_get hx, AOpd.lk_get hy, binOf, binI, hp]) h'
theorem RO.eqlF {x y : AOpd} {kk : IntKind} {a b : Int} (h : ops = ⟨some d, .bin .eql x y, none⟩ :: rest) (hx : x.lk env = some (.i kk a)) (hy : y.lk env = some (.i kk b)) (hp : ¬ (a = b)) (h' : RO Y fn rest (i + 1) k ((d, .b false) :: env) mem next Q) : RO Y fn ops i k env mem next Q :=
  RO.p h (by simp [AOp.map, act, AOpd.lk_get hx, AOpd.lk_get hy, binOf, binI]; simpa using hp) h'
theorem RO.neqT {x y : AOpd} {kk : IntKind} {a b : Int} (h : ops = ⟨some d, .bin .neq x y, none⟩ :: rest) (hx : x.lk env = some (.i kk a)) (hy : y.lk env = some (.i kk b)) (hp : a ≠ b) (h' : RO Y fn rest (i + 1) k ((d, .b true) :: env) mem next Q) : RO Y fn ops i k env mem next Q :=
  RO.p h (by simp [AOp.map, act, AOpd.lk_get hx, AOpd.lk_get hy, binOf, binI]; exact hp) h'
theorem RO.neqF {x y : AOpd} {kk : IntKind} {a b : Int} (h : ops = ⟨some d, .bin .neq x y, none⟩ :: rest) (hx : x.lk env = some (.i kk a)) (hy : y.lk env = some (.i kk b)) (hp : ¬ (a ≠ b)) (h' : RO Y fn rest (i + 1) k ((d, .b false) :: env) mem next Q) : RO Y fn ops i k env mem next Q :=
  RO.p h (by have hp := Classical.not_not.1 hp; simp [AOp.map, act, AOpd.lk_get hx, AOpd.lk_get hy, binOf, binI, hp]) h'
theorem RO.sT {x y : AOpd} {a b : ByteArray} (h : ops = ⟨some d, .bin .eql x y, none⟩ :: rest) (hx : x.lk env = some (.s a)) (hy : y.lk env = some (.s b)) (hp : a = b) (h' : RO Y fn rest (i + 1) k ((d, .b true) :: env) mem next Q) : RO Y fn ops i k env mem next Q :=
  RO.p h (by subst hp; simp [AOp.map, act, AOpd.lk_get hx, AOpd.lk_get hy, binOf]) h'
theorem RO.sF {x y : AOpd} {a b : ByteArray} (h : ops = ⟨some d, .bin .eql x y, none⟩ :: rest) (hx : x.lk env = some (.s a)) (hy : y.lk env = some (.s b)) (hp : a ≠ b) (h' : RO Y fn rest (i + 1) k ((d, .b false) :: env) mem next Q) : RO Y fn ops i k env mem next Q :=
  RO.p h (by simp [AOp.map, act, AOpd.lk_get hx, AOpd.lk_get hy, binOf]; exact fun e => hp (ba_ext e)) h'
theorem RO.snT {x y : AOpd} {a b : ByteArray} (h : ops = ⟨some d, .bin .neq x y, none⟩ :: rest) (hx : x.lk env = some (.s a)) (hy : y.lk env = some (.s b)) (hp : a ≠ b) (h' : RO Y fn rest (i + 1) k ((d, .b true) :: env) mem next Q) : RO Y fn ops i k env mem next Q :=
  RO.p h (by simp [AOp.map, act, AOpd.lk_get hx, AOpd.lk_get hy, binOf]; exact fun e => hp (ba_ext e)) h'
theorem RO.snF {x y : AOpd} {a b : ByteArray} (h : ops = ⟨some d, .bin .neq x y, none⟩ :: rest) (hx : x.lk env = some (.s a)) (hy : y.lk env = some (.s b)) (hp : a = b) (h' : RO Y fn rest (i + 1) k ((d, .b false) :: env) mem next Q) : RO Y fn ops i k env mem next Q :=
  RO.p h (by subst hp; simp [AOp.map, act, AOpd.lk_get hx, AOpd.lk_get hy, binOf]) h'
theorem RO.bne {x y : AOpd} {a b : Bool} (h : ops = ⟨some d, .eqb true x y, none⟩ :: rest) (hx : x.lk env = some (.b a)) (hy : y.lk env = some (.b b)) (h' : RO Y fn rest (i + 1) k ((d, .b (!(a == b))) :: env) mem next Q) : RO Y fn ops i k env mem next Q :=
  RO.p h (by simp [AOp.map, act, AOpd.lk_get hx, AOpd.lk_get hy]) h'
theorem RO.not {x : AOpd} {a : Bool} (h : ops = ⟨some d, .un .not x, none⟩ :: rest) (hx : x.lk env = some (.b a)) (h' : RO Y fn rest (i + 1) k ((d, .b (!a)) :: env) mem next Q) : RO Y fn ops i k env mem next Q :=
  RO.p h (by simp [AOp.map, act, AOpd.lk_get hx]) h'
theorem RO.notT {x : AOpd} (h : ops = ⟨some d, .un .not x, none⟩ :: rest) (hx : x.lk env = some (.b true)) (h' : RO Y fn rest (i + 1) k ((d, .b false) :: env) mem next Q) : RO Y fn ops i k env mem next Q :=
  RO.p h (by simp [AOp.map, act, AOpd.lk_get hx]) h'
theorem RO.notF {x : AOpd} (h : ops = ⟨some d, .un .not x, none⟩ :: rest) (hx : x.lk env = some (.b false)) (h' : RO Y fn rest (i + 1) k ((d, .b true) :: env) mem next Q) : RO Y fn ops i k env mem next Q :=
  RO.p h (by simp [AOp.map, act, AOpd.lk_get hx]) h'
theorem RO.fa {x : AOpd} {off id n j : Nat} (h : ops = ⟨some d, .fa off x, none⟩ :: rest) (hx : x.lk env = some (.elt id n j)) (h' : RO Y fn rest (i + 1) k ((d, .elt id n (j + off)) :: env) mem next Q) : RO Y fn ops i k env mem next Q :=
  RO.p h (by simp [AOp.map, act, AOpd.lk_get hx]) h'
theorem RO.faF {x : AOpd} {off j : Nat} {cs : List AV} (h : ops = ⟨some d, .fa off x, none⟩ :: rest) (hx : x.lk env = some (.fptr cs j)) (h' : RO Y fn rest (i + 1) k ((d, .fptr cs (j + off)) :: env) mem next Q) : RO Y fn ops i k env mem next Q :=
  RO.p h (by simp [AOp.map, act, AOpd.lk_get hx]) h'
theorem RO.fd {x : AOpd} {off : Nat} {cs : List AV} (h : ops = ⟨some d, .fd off 1 false x, none⟩ :: rest) (hx : x.lk env = some (.agg cs)) (hv : cs[off]? = some v) (h' : RO Y fn rest (i + 1) k ((d, v) :: env) mem next Q) : RO Y fn ops i k env mem next Q :=
  RO.p h (by have hj := (List.getElem?_eq_some_iff.1 hv).1; simp [AOp.map, act, AOpd.lk_get hx, ld_one hv]; omega) h'
theorem RO.ia {x y : AOpd} {es n : Nat} {fl : Bool} {kk : IntKind} {xs : List (List AV)} {β : Type} {l : List β} {f : β → List AV} [hw : Rw xs l f] {a : β} (h : ops = ⟨some d, .ia es x y, none⟩ :: rest) (hx : x.lk env = some (.fro fl es xs)) (hy : y.lk env = some (.i kk (n : Int))) (hc : l[n]? = some a) (h' : RO Y fn rest (i + 1) k ((d, .fptr (f a) 0) :: env) mem next Q) : RO Y fn ops i k env mem next Q :=
  RO.p h (by simp [AOp.map, act, AOpd.lk_get hx, AOpd.lk_get hy, getI_nat, hw.at hc]) h'
theorem RO.iaI {x y : AOpd} {es : Nat} {n : Int} {fl : Bool} {kk : IntKind} {xs : List (List AV)} {β : Type} {l : List β} {f : β → List AV} [hw : Rw xs l f] {a : β} (h : ops = ⟨some d, .ia es x y, none⟩ :: rest) (hx : x.lk env = some (.fro fl es xs)) (hy : y.lk env = some (.i kk n)) (hn : 0 ≤ n) (hc : l[n.toNat]? = some a) (h' : RO Y fn rest (i + 1) k ((d, .fptr (f a) 0) :: env) mem next Q) : RO Y fn ops i k env mem next Q :=
  RO.p h (by simp [AOp.map, act, AOpd.lk_get hx, AOpd.lk_get hy, getI, hn, hw.at hc]) h'
theorem RO.iaR {x y : AOpd} {es id n mc : Nat} {fl : Bool} {kk : IntKind} {xs : List (List AV)} (h : ops = ⟨some d, .ia es x y, none⟩ :: rest) (hx : x.lk env = some (.row id)) (hy : y.lk env = some (.i kk (n : Int))) (hm : look mem id = some (.row fl es mc xs)) (hc : n < xs.length) (h' : RO Y fn rest (i + 1) k ((d, .elt id n 0) :: env) mem next Q) : RO Y fn ops i k env mem next Q :=
  RO.p h (by simp [AOp.map, act, AOpd.lk_get hx, AOpd.lk_get hy, hm, hc]) h'
theorem RO.iaRI {x y : AOpd} {es id mc : Nat} {n : Int} {fl : Bool} {kk : IntKind} {xs : List (List AV)} (h : ops = ⟨some d, .ia es x y, none⟩ :: rest) (hx : x.lk env = some (.row id)) (hy : y.lk env = some (.i kk n)) (hm : look mem id = some (.row fl es mc xs)) (hn : 0 ≤ n) (hc : n < xs.length) (h' : RO Y fn rest (i + 1) k ((d, .elt id n.toNat 0) :: env) mem next Q) : RO Y fn ops i k env mem next Q :=
  RO.p h (by simp [AOp.map, act, AOpd.lk_get hx, AOpd.lk_get hy, hm, hn, hc]) h'
theorem RO.ex {x : AOpd} {n : Nat} {cs : List AV} (h : ops = ⟨some d, .ex x n, none⟩ :: rest) (hx : x.lk env = some (.tup cs)) (hv : cs[n]? = some v) (h' : RO Y fn rest (i + 1) k ((d, v) :: env) mem next Q) : RO Y fn ops i k env mem next Q :=
  RO.p h (by simp [AOp.map, act, AOpd.lk_get hx, hv]) h'
theorem RO.len {x : AOpd} {n m : Nat} {w : AV} (h : ops = ⟨some d, .len false x, none⟩ :: rest) (hx : x.lk env = some w) (hl : lenOf (look mem) w = some n) [hn : Nm n m] (h' : RO Y fn rest (i + 1) k ((d, .i .i64 (m : Int)) :: env) mem next Q) : RO Y fn ops i k env mem next Q :=
  RO.p h (by simp [AOp.map, act, AOpd.lk_get hx, hl, ← hn.eq]) h'
theorem RO.ap {x y : AOpd} {es by_ id mc : Nat} {fl fl' : Bool} {xs ys : List (List AV)} {w : AV} (h : ops = ⟨some d, .ap es by_ x y, none⟩ :: rest) (hx : x.lk env = some (.row id)) (hm : look mem id = some (.row fl es mc xs)) (hy : y.lk env = some w) (hs : sliceOf (look mem) es w = some (fl', ys)) (hn : xs.length + ys.length ≤ 1000000000) (hb : by_ ≤ 1000) (h' : RO Y fn rest (i + 1) k ((d, .row (next + 16 * i)) :: env) (([(id, .dead), (next + 16 * i, .row (fl && fl') es (max mc (xs.length + ys.length)) (xs ++ ys))] : Ups).reverse ++ mem) next Q) : RO Y fn ops i k env mem next Q :=
  RO.u h (by have h1 : (xs.length + ys.length) * by_ ≤ 140737488355328 := Nat.le_trans (Nat.mul_le_mul hn hb) (by decide); have h2 : xs.length + ys.length ≤ 9223372036854775807 := Nat.le_trans hn (by decide); simp only [AOp.map, act, AOpd.lk_get hx, AOpd.lk_get hy, hs, Option.bind_some, apOf, apDst, hm, if_true, h1, h2, and_self]; rfl) h'
theorem RO.slF {x : AOpd} {lo hi : Option AOpd} {es l h' : Nat} {fl : Bool} {xs : List (List AV)} (h : ops = ⟨some d, .sl es x lo hi none, none⟩ :: rest) (hx : x.lk env = some (.fro fl es xs)) (he : es ≠ 0) (hlo : bndOf 0 (lo.map (AOpd.get (E env))) = some l) (hhi : bndOf xs.length (hi.map (AOpd.get (E env))) = some h') (hb : l ≤ h' ∧ h' ≤ xs.length) (h' : RO Y fn rest (i + 1) k ((d, .fro fl es ((xs.take h').drop l)) :: env) mem next Q) : RO Y fn ops i k env mem next Q :=
  RO.p h (by simp [AOp.map, act, slOf, AOpd.lk_get hx, he, hlo, hhi, bnd_none, hb.1, hb.2]) h'
theorem RO.slR {x : AOpd} {lo hi : Option AOpd} {es l h' id mc : Nat} {fl : Bool} {xs : List (List AV)} (h : ops = ⟨some d, .sl es x lo hi none, none⟩ :: rest) (hx : x.lk env = some (.row id)) (hm : look mem id = some (.row fl es mc xs)) (he : es ≠ 0) (hlo : bndOf 0 (lo.map (AOpd.get (E env))) = some l) (hhi : bndOf xs.length (hi.map (AOpd.get (E env))) = some h') (hb : l ≤ h' ∧ h' ≤ xs.length) (h' : RO Y fn rest (i + 1) k ((d, .view id l h') :: env) mem next Q) : RO Y fn ops i k env mem next Q :=
  RO.p h (by simp [AOp.map, act, slOf, AOpd.lk_get hx, hm, he, hlo, hhi, bnd_none, hb.1, hb.2]) h'
theorem RO.cv8 {x : AOpd} {u : UInt8} (h : ops = ⟨some d, .cvI .i64 x, none⟩ :: rest) (hx : x.lk env = some (.i .u8 (u.toNat : Int))) (h' : RO Y fn rest (i + 1) k ((d, .i .i64 (u.toNat : Int)) :: env) mem next Q) : RO Y fn ops i k env mem next Q :=
  RO.p h (by have hu := u.toNat_lt; simp only [AOp.map, act, AOpd.lk_get hx]; rw [wrap64 (by omega)]) h'
theorem RO.quoN {x y : AOpd} {n m : Nat} (h : ops = ⟨some d, .bin .quo x y, none⟩ :: rest) (hx : x.lk env = some (.i .i64 (n : Int))) (hy : y.lk env = some (.i .i64 (m : Int))) (h0 : m ≠ 0) (hn : n ≤ 1000000000) (h' : RO Y fn rest (i + 1) k ((d, .i .i64 ((n / m : Nat) : Int)) :: env) mem next Q) : RO Y fn ops i k env mem next Q :=
  RO.p h (by have h1 : (m : Int) ≠ 0 := (by omega); have h2 : n / m ≤ n := Nat.div_le_self n m; have h3 : ((n : Int).tdiv m) = ((n / m : Nat) : Int) := rfl; have h5 : (0 : Int) ≤ ((n / m : Nat) : Int) := Int.natCast_nonneg _; simp only [AOp.map, act, AOpd.lk_get hx, AOpd.lk_get hy, binOf, binI, if_true, if_neg h1, Option.bind_some]; rw [h3, wrap64 (n := ((n / m : Nat) : Int)) ⟨(by omega), (by omega)⟩]) h'
theorem RO.cvI {x : AOpd} {kk ki : IntKind} {n : Int} (h : ops = ⟨some d, .cvI kk x, none⟩ :: rest) (hx : x.lk env = some (.i ki n)) (h' : RO Y fn rest (i + 1) k ((d, .i kk (kk.wrap n)) :: env) mem next Q) : RO Y fn ops i k env mem next Q :=
  RO.p h (by simp [AOp.map, act, AOpd.lk_get hx]) h'
theorem RO.mf {f : Nat} {cs : List AOpd} (h : ops = ⟨some d, .mf f cs, none⟩ :: rest)  (h' : RO Y fn rest (i + 1) k ((d, .clo f (cs.map (AOpd.get (E env)))) :: env) mem next Q) : RO Y fn ops i k env mem next Q :=
  RO.p h (by simp [AOp.map, act]) h'
theorem RO.g {dst : Option Nat} {t : Nat} {b : Bool} (h : ops = ⟨dst, op, some (t, b)⟩ :: rest) (hg : look env t = some (.b b)) (h' : RO Y fn (⟨dst, op, none⟩ :: rest) i k env mem next Q) : RO Y fn ops i k env mem next Q := by subst h; obtain ⟨r, o, h1, h2⟩ := h'; exact ⟨r, o, h1, fun tr => runs_guard hg (h2 _)⟩
theorem RO.gs {t : Nat} {b c : Bool} (h : ops = ⟨some d, op, some (t, b)⟩ :: rest) (hg : look env t = some (.b c)) (hb : c = !b) (h' : RO Y fn rest (i + 1) k ((d, .tup []) :: env) mem next Q) : RO Y fn ops i k env mem next Q := RO.gn h (by simp [E, hg]) hb h'
theorem RO.gu {t : Nat} {b : Bool} (h : ops = ⟨some d, op, some (t, b)⟩ :: rest) (hg : look env t = some (.tup [])) (h' : RO Y fn rest (i + 1) k ((d, .tup []) :: env) mem next Q) : RO Y fn ops i k env mem next Q := RO.gt h (by simp [E, hg]) h'
theorem RO.c {cf : AOpd} {as : List AOpd} {f : Nat} {caps pargs pargs' outs' : List AV} {sn : List Nat} {r' : AV} {mem' : Mem'} {n1 : Nat} (h : ops = ⟨some d, .call cf as, none⟩ :: rest) (hc : cf.lk env = some (.clo f caps)) (hp : prep (look mem) (Y.md f) (as.map (AOpd.get (E env)) ++ caps) = some (pargs, [], sn)) (hr : RF Y f pargs' r' outs') (hs : LeBs pargs pargs') [hi : ImpR (next + 16 * i) r' mem v mem' n1] (hb : backs n1 (look mem) (Y.md f) (as.map (AOpd.get (E env)) ++ caps) outs' = some ([], n1)) (hld : (r'.leads || outs'.any AV.leads) = false) (hlv : liveIds (look mem) sn = true) (hn : n1 ≤ next + 16 * i + 16)
    (h' : RO Y fn rest (i + 1) k ((d, v) :: env) mem' next Q) : RO Y fn ops i k env mem next Q := by
  obtain ⟨ui, h1, h2⟩ := fin_of (md := Y.md f) (d := []) (sn := sn) (z := []) hi hb (by rw [hld]; simp [hlv, putM]) hn
  subst h1
  exact RO.call h (AOpd.lk_get hc) hp (hr.sub hs) h2 (by simpa using h')
theorem RO.cz {cf : AOpd} {as : List AOpd} {f : Nat} {caps pargs pargs' outs' : List AV} {sn : List Nat} {r' : AV} {mem' : Mem'} {n1 : Nat} {z : Ups} (h : ops = ⟨some d, .call cf as, none⟩ :: rest) (hc : cf.lk env = some (.clo f caps)) (hp : prep (look mem) (Y.md f) (as.map (AOpd.get (E env)) ++ caps) = some (pargs, [], sn)) (hr : RF Y f pargs' r' outs') (hs : LeBs pargs pargs') [hi : ImpR (next + 16 * i) r' (z.reverse ++ mem) v mem' n1] (hb : backs n1 (look mem) (Y.md f) (as.map (AOpd.get (E env)) ++ caps) outs' = some ([], n1)) (hld : (r'.leads || outs'.any AV.leads) = true) (hlv : freezeIds (look mem) sn = some z) (hn : n1 ≤ next + 16 * i + 16)
    (h' : RO Y fn rest (i + 1) k ((d, v) :: env) mem' next Q) : RO Y fn ops i k env mem next Q := by
  obtain ⟨ui, h1, h2⟩ := fin_of (md := Y.md f) (d := []) (sn := sn) (z := z) hi hb (by rw [hld]; simp [hlv, putM]) hn
  subst h1
  exact RO.call h (AOpd.lk_get hc) hp (hr.sub hs) h2 (by simpa using h')
theorem RO.cPz {cf : AOpd} {as : List AOpd} {f : Nat} {caps pargs pargs' : List AV} {sn : List Nat} {r' : AV} {mem' : Mem'} {n1 : Nat} {id : Nat} {z : Ups} {cs cs' : List AV} {mem2 : Mem'} {n2 : Nat} (h : ops = ⟨some d, .call cf as, none⟩ :: rest) (hc : cf.lk env = some (.clo f caps)) (hp : prep (look mem) (Y.md f) (as.map (AOpd.get (E env)) ++ caps) = some (pargs, [(id, .dead)], sn)) (hr : RF Y f pargs' r' [.obx cs 0]) (hs : LeBs pargs pargs') [hi : ImpR (next + 16 * i) r' (z.reverse ++ (id, .dead) :: mem) v mem' n1] [hj : ImpC n1 cs mem' cs' mem2 n2] (hb : backs n1 (look mem) (Y.md f) (as.map (AOpd.get (E env)) ++ caps) [.obx cs 0] = some ((impCells n1 cs).2.1 ++ [(id, .box (impCells n1 cs).1)], (impCells n1 cs).2.2)) (hld : (r'.leads || [AV.obx cs 0].any AV.leads) = true) (hlv : freezeIds (putM (look mem) [(id, .dead)]) sn = some z) (hn : n2 ≤ next + 16 * i + 16)
    (h' : RO Y fn rest (i + 1) k ((d, v) :: env) ((id, .box cs') :: mem2) next Q) : RO Y fn ops i k env mem next Q := by
  obtain ⟨uj, j1, j2⟩ := hj.eq
  rw [j1] at hb
  obtain ⟨ui, h1, h2⟩ := fin_of (md := Y.md f) (d := [(id, .dead)]) (sn := sn) (z := z) hi hb (by rw [hld]; simp [hlv]) hn
  subst h1; subst j2
  exact RO.call h (AOpd.lk_get hc) hp (hr.sub hs) h2 (by simpa using h')
theorem RO.cM {cf : AOpd} {as : List AOpd} {f : Nat} {caps pargs pargs' outs' : List AV} {sn : List Nat} {r' : AV} {mem' : Mem'} {n1 : Nat} {dd z ub : Ups} {n2 : Nat} (h : ops = ⟨some d, .call cf as, none⟩ :: rest) (hc : cf.lk env = some (.clo f caps)) (hp : prep (look mem) (Y.md f) (as.map (AOpd.get (E env)) ++ caps) = some (pargs, dd, sn)) (hr : RF Y f pargs' r' outs') (hs : LeBs pargs pargs') [hi : ImpR (next + 16 * i) r' (z.reverse ++ (dd.reverse ++ mem)) v mem' n1] (hb : backs n1 (look mem) (Y.md f) (as.map (AOpd.get (E env)) ++ caps) outs' = some (ub, n2)) (hz : (if r'.leads || outs'.any AV.leads then freezeIds (putM (look mem) dd) sn else if liveIds (putM (look mem) dd) sn then some [] else none) = some z) (hn : n2 ≤ next + 16 * i + 16)
    (h' : RO Y fn rest (i + 1) k ((d, v) :: env) (ub.reverse ++ mem') next Q) : RO Y fn ops i k env mem next Q := by
  obtain ⟨ui, h1, h2⟩ := fin_of (md := Y.md f) (d := dd) (sn := sn) (z := z) hi hb hz hn
  subst h1
  exact RO.call h (AOpd.lk_get hc) hp (hr.sub hs) h2 (by simpa using h')
theorem RO.lss {x y : AOpd} {kk : IntKind} {a b : Int} (h : ops = ⟨some d, .bin .lss x y, none⟩ :: rest) (hx : x.lk env = some (.i kk a)) (hy : y.lk env = some (.i kk b)) (hT : a < b → RO Y fn rest (i + 1) k ((d, .b true) :: env) mem next Q) (hF : ¬ (a < b) → RO Y fn rest (i + 1) k ((d, .b false) :: env) mem next Q) : RO Y fn ops i k env mem next Q := by
  by_cases hp : a < b
  · exact RO.lssT h hx hy hp (hT hp)
  · exact RO.lssF h hx hy hp (hF hp)
theorem RO.leq {x y : AOpd} {kk : IntKind} {a b : Int} (h : ops = ⟨some d, .bin .leq x y, none⟩ :: rest) (hx : x.lk env = some (.i kk a)) (hy : y.lk env = some (.i kk b)) (hT : a ≤ b → RO Y fn rest (i + 1) k ((d, .b true) :: env) mem next Q) (hF : ¬ (a ≤ b) → RO Y fn rest (i + 1) k ((d, .b false) :: env) mem next Q) : RO Y fn ops i k env mem next Q := by
  by_cases hp : a ≤ b
  · exact RO.leqT h hx hy hp (hT hp)
  · exact RO.leqF h hx hy hp (hF hp)
theorem RO.gtr {x y : AOpd} {kk : IntKind} {a b : Int} (h : ops = ⟨some d, .bin .gtr x y, none⟩ :: rest) (hx : x.lk env = some (.i kk a)) (hy : y.lk env = some (.i kk b)) (hT : a > b → RO Y fn rest (i + 1) k ((d, .b true) :: env) mem next Q) (hF : ¬ (a > b) → RO Y fn rest (i + 1) k ((d, .b false) :: env) mem next Q) : RO Y fn ops i k env mem next Q := by
  by_cases hp : a > b
  · exact RO.gtrT h hx hy hp (hT hp)
  · exact RO.gtrF h hx hy hp (hF hp)
theorem RO.geq {x y : AOpd} {kk : IntKind} {a b : Int} (h : ops = ⟨some d, .bin .geq x y, none⟩ :: rest) (hx : x.lk env = some (.i kk a)) (hy : y.lk env = some (.i kk b)) (hT : a ≥ b → RO Y fn rest (i + 1) k ((d, .b true) :: env) mem next Q) (hF : ¬ (a ≥ b) → RO Y fn rest (i + 1) k ((d, .b false) :: env) mem next Q) : RO Y fn ops i k env mem next Q := by
  by_cases hp : a ≥ b
  · exact RO.geqT h hx hy hp (hT hp)
  · exact RO.geqF h hx hy hp (hF hp)
theorem RO.eql {x y : AOpd} {kk : IntKind} {a b : Int} (h : ops = ⟨some d, .bin .eql x y, none⟩ :: rest) (hx : x.lk env = some (.i kk a)) (hy : y.lk env = some (.i kk b)) (hT : a = b → RO Y fn rest (i + 1) k ((d, .b true) :: env) mem next Q) (hF : ¬ (a = b) → RO Y fn rest (i + 1) k ((d, .b false) :: env) mem next Q) : RO Y fn ops i k env mem next Q := by
  by_cases hp : a = b
  · exact RO.eqlT h hx hy hp (hT hp)
  · exact RO.eqlF h hx hy hp (hF hp)
theorem RO.neq {x y : AOpd} {kk : IntKind} {a b : Int} (h : ops = ⟨some d, .bin .neq x y, none⟩ :: rest) (hx : x.lk env = some (.i kk a)) (hy : y.lk env = some (.i kk b)) (hT : a ≠ b → RO Y fn rest (i + 1) k ((d, .b true) :: env) mem next Q) (hF : ¬ (a ≠ b) → RO Y fn rest (i + 1) k ((d, .b false) :: env) mem next Q) : RO Y fn ops i k env mem next Q := by
  by_cases hp : a ≠ b
  · exact RO.neqT h hx hy hp (hT hp)
  · exact RO.neqF h hx hy hp (hF hp)
theorem RO.s {x y : AOpd} {a b : ByteArray} (h : ops = ⟨some d, .bin .eql x y, none⟩ :: rest) (hx : x.lk env = some (.s a)) (hy : y.lk env = some (.s b)) (hT : a = b → RO Y fn rest (i + 1) k ((d, .b true) :: env) mem next Q) (hF : ¬ (a = b) → RO Y fn rest (i + 1) k ((d, .b false) :: env) mem next Q) : RO Y fn ops i k env mem next Q := by
  by_cases hp : a = b
  · exact RO.sT h hx hy hp (hT hp)
  · exact RO.sF h hx hy hp (hF hp)
theorem RO.sn {x y : AOpd} {a b : ByteArray} (h : ops = ⟨some d, .bin .neq x y, none⟩ :: rest) (hx : x.lk env = some (.s a)) (hy : y.lk env = some (.s b)) (hT : a ≠ b → RO Y fn rest (i + 1) k ((d, .b true) :: env) mem next Q) (hF : ¬ (a ≠ b) → RO Y fn rest (i + 1) k ((d, .b false) :: env) mem next Q) : RO Y fn ops i k env mem next Q := by
  by_cases hp : a ≠ b
  · exact RO.snT h hx hy hp (hT hp)
  · exact RO.snF h hx hy (Classical.not_not.1 hp) (hF hp)
theorem RO.andL {x y : AOpd} {a : Int} {n : Nat} (h : ops = ⟨some d, .bin .and x y, none⟩ :: rest) (hx : x.lk env = some (.i .i64 a)) (hy : y.lk env = some (.i .i64 (n : Int))) (hn : n < 9223372036854775808) (h' : ∀ z : Int, 0 ≤ z → z ≤ n → RO Y fn rest (i + 1) k ((d, .i .i64 z) :: env) mem next Q) : RO Y fn ops i k env mem next Q := by
  refine RO.p h (v := .i .i64 (IntKind.i64.wrap ((BitVec.ofInt 64 a &&& BitVec.ofInt 64 n).toNat : Int))) ?_ (h' _ (and_lo a n hn).1 (and_lo a n hn).2)
  simp only [AOp.map, act, AOpd.lk_get hx, AOpd.lk_get hy, binOf, binI, if_true, Option.bind_some]; rfl
theorem RO.any {kk : IntKind} {n : Int} (h : ops = ⟨some d, op, none⟩ :: rest) (ha : act (next + 16 * i) (look mem) (op.map (AOpd.get (E env))) = some (.i kk n, [])) (h' : ∀ z : Int, RO Y fn rest (i + 1) k ((d, .i kk z) :: env) mem next Q) : RO Y fn ops i k env mem next Q := RO.p h ha (h' n)
theorem RO.bB {c : Bool} (hT : c = true → RO Y fn ops i k ((d, .b true) :: env) mem next Q) (hF : c = false → RO Y fn ops i k ((d, .b false) :: env) mem next Q) : RO Y fn ops i k ((d, .b c) :: env) mem next Q := by cases c; exact hF rfl; exact hT rfl
theorem RD.mv {x : AOpd} (h : ops = ⟨some d, .mv x, none⟩ :: rest) (hx : x.lk env = some v) (h' : RD Y fn rest (i + 1) (tr ++ [(touchOf (look mem) ((.mv x : AOp AOpd).map (AOpd.get (E env))), (([] : Ups).map (·.1)))]) ps k ((d, v) :: env) mem next Q) : RD Y fn ops i tr ps k env mem next Q :=
  RD.p h (by simp [AOp.map, act, AOpd.lk_get hx]) h'
theorem RD.pickT {c x y : AOpd} (h : ops = ⟨some d, .pick c x y, none⟩ :: rest) (hc : c.lk env = some (.b true)) (hx : x.lk env = some v) (h' : RD Y fn rest (i + 1) (tr ++ [(touchOf (look mem) ((.pick c x y : AOp AOpd).map (AOpd.get (E env))), (([] : Ups).map (·.1)))]) ps k ((d, v) :: env) mem next Q) : RD Y fn ops i tr ps k env mem next Q :=
  RD.p h (by simp [AOp.map, act, AOpd.lk_get hc, AOpd.lk_get hx]) h'
theorem RD.pickF {c x y : AOpd} (h : ops = ⟨some d, .pick c x y, none⟩ :: rest) (hc : c.lk env = some (.b false)) (hy : y.lk env = some v) (h' : RD Y fn rest (i + 1) (tr ++ [(touchOf (look mem) ((.pick c x y : AOp AOpd).map (AOpd.get (E env))), (([] : Ups).map (·.1)))]) ps k ((d, v) :: env) mem next Q) : RD Y fn ops i tr ps k env mem next Q :=
  RD.p h (by simp [AOp.map, act, AOpd.lk_get hc, AOpd.lk_get hy]) h'
theorem RD.new {z : List AV} (h : ops = ⟨some d, .new z, none⟩ :: rest)  (h' : RD Y fn rest (i + 1) (tr ++ [(touchOf (look mem) ((.new z : AOp AOpd).map (AOpd.get (E env))), ([((next + 16 * i, .box z) : Nat × AObj)].map (·.1)))]) ps k ((d, .elt (next + 16 * i) 0 0) :: env) ((next + 16 * i, .box z) :: mem) next Q) : RD Y fn ops i tr ps k env mem next Q :=
  RD.u1 h (by simp [AOp.map, act]) h'
theorem RD.box {x : AOpd} {cs : List AV} (h : ops = ⟨some d, .box x, none⟩ :: rest) (hx : x.lk env = some v) (hc : v.cells = some cs) (h' : RD Y fn rest (i + 1) (tr ++ [(touchOf (look mem) ((.box x : AOp AOpd).map (AOpd.get (E env))), ([((next + 16 * i, .box cs) : Nat × AObj)].map (·.1)))]) ps k ((d, .elt (next + 16 * i) 0 0) :: env) ((next + 16 * i, .box cs) :: mem) next Q) : RD Y fn ops i tr ps k env mem next Q :=
  RD.u1 h (by simp [AOp.map, act, AOpd.lk_get hx, hc]) h'
theorem RD.build {z cs : List AV} {qs : List (Nat × Nat × AOpd)} {vs : List (Nat × Nat × AV)} (h : ops = ⟨some d, .build z qs, none⟩ :: rest) (hv : lkAll env qs = some vs) (hb : buildOf z vs = some cs) (h' : RD Y fn rest (i + 1) (tr ++ [(touchOf (look mem) ((.build z qs : AOp AOpd).map (AOpd.get (E env))), (([] : Ups).map (·.1)))]) ps k ((d, .agg cs) :: env) mem next Q) : RD Y fn ops i tr ps k env mem next Q :=
  RD.p h (by simp [AOp.map, act, lkAll_map hv, hb]) h'
theorem RD.row0 {es : Nat} {z : List AV} (h : ops = ⟨some d, .rowOf es z 0 [], none⟩ :: rest) (hz : z.length = es) (hl : z.all AV.lit = true) (h' : RD Y fn rest (i + 1) (tr ++ [(touchOf (look mem) ((.rowOf es z 0 [] : AOp AOpd).map (AOpd.get (E env))), ([((next + 16 * i, .row true es 0 []) : Nat × AObj)].map (·.1)))]) ps k ((d, .row (next + 16 * i)) :: env) ((next + 16 * i, .row true es 0 []) :: mem) next Q) : RD Y fn ops i tr ps k env mem next Q :=
  RD.u1 h (by subst hz; simp [AOp.map, act, rowParts, litRow]; simpa using hl) h'
theorem RD.row1 {es : Nat} {z cs qs : List AV} {x : AOpd} {u : Ups} {fl : Bool} (h : ops = ⟨some d, .rowOf es z 1 [(0, x)], none⟩ :: rest) (hx : x.lk env = some v) (hc : v.cells = some cs) (hn : cs.length = es) (hz : z.length = es) (hl : z.all AV.lit = true) (hf : fzCells (look mem) cs = some (qs, u)) (hq : qs.all AV.lit = fl) (h' : RD Y fn rest (i + 1) (tr ++ [(touchOf (look mem) ((.rowOf es z 1 [(0, x)] : AOp AOpd).map (AOpd.get (E env))), ((u ++ [(next + 16 * i, .row fl es 1 [qs])] : Ups).map (·.1)))]) ps k ((d, .row (next + 16 * i)) :: env) ((u ++ [(next + 16 * i, .row fl es 1 [qs])] : Ups).reverse ++ mem) next Q) : RD Y fn ops i tr ps k env mem next Q :=
  RD.u h (by subst hz; subst hq; simp [AOp.map, act, rowParts, AOpd.lk_get hx, hc, hn, hf, litRow]; simpa using hl) h'
theorem RD.row1P {es : Nat} {z cs : List AV} {x : AOpd} {fl : Bool} (h : ops = ⟨some d, .rowOf es z 1 [(0, x)], none⟩ :: rest) (hx : x.lk env = some v) (hc : v.cells = some cs) (hn : cs.length = es) (hz : z.length = es) (hl : z.all AV.lit = true) (hp : cs.all AV.plain = true) (hq : cs.all AV.lit = fl) (h' : RD Y fn rest (i + 1) (tr ++ [(touchOf (look mem) ((.rowOf es z 1 [(0, x)] : AOp AOpd).map (AOpd.get (E env))), ([((next + 16 * i, .row fl es 1 [cs]) : Nat × AObj)].map (·.1)))]) ps k ((d, .row (next + 16 * i)) :: env) ((next + 16 * i, .row fl es 1 [cs]) :: mem) next Q) : RD Y fn ops i tr ps k env mem next Q :=
  RD.u1 h (by subst hz; subst hq; simp [AOp.map, act, rowParts, AOpd.lk_get hx, hc, hn, fz_plain hp, litRow]; simpa using hl) h'
theorem RD.rows {es n : Nat} {z : List AV} {qs : List (Nat × AOpd)} {vs : List (Nat × AV)} {xs : List (List AV)} {u : Ups} {fl : Bool} (h : ops = ⟨some d, .rowOf es z n qs, none⟩ :: rest) (hz : z.length = es) (hl : z.all AV.lit = true) (hv : lkAll2 env qs = some vs) (hf : rowParts (look mem) es n (List.replicate n z) vs = some (xs, u)) (hq : litRow xs = fl) (h' : RD Y fn rest (i + 1) (tr ++ [(touchOf (look mem) ((.rowOf es z n qs : AOp AOpd).map (AOpd.get (E env))), ((u ++ [(next + 16 * i, .row fl es n xs)] : Ups).map (·.1)))]) ps k ((d, .row (next + 16 * i)) :: env) ((u ++ [(next + 16 * i, .row fl es n xs)] : Ups).reverse ++ mem) next Q) : RD Y fn ops i tr ps k env mem next Q :=
  RD.u h (by subst hz; subst hq; simp [AOp.map, act, lkAll2_map hv, hf]; simpa using hl) h'
theorem RD.ldE {x : AOpd} {id j : Nat} {cs : List AV} (h : ops = ⟨some d, .ld 1 false x, none⟩ :: rest) (hx : x.lk env = some (.elt id 0 j)) (hm : look mem id = some (.box cs)) (hv : cs[j]? = some v) (h' : RD Y fn rest (i + 1) (tr ++ [(touchOf (look mem) ((.ld 1 false x : AOp AOpd).map (AOpd.get (E env))), (([] : Ups).map (·.1)))]) ps k ((d, v) :: env) mem next Q) : RD Y fn ops i tr ps k env mem next Q :=
  RD.p h (by have hj := (List.getElem?_eq_some_iff.1 hv).1; simp [AOp.map, act, ptrCells, AOpd.lk_get hx, hm, ld_one hv]; omega) h'
theorem RD.ldF {x : AOpd} {j : Nat} {cs : List AV} (h : ops = ⟨some d, .ld 1 false x, none⟩ :: rest) (hx : x.lk env = some (.fptr cs j)) (hv : cs[j]? = some v) (h' : RD Y fn rest (i + 1) (tr ++ [(touchOf (look mem) ((.ld 1 false x : AOp AOpd).map (AOpd.get (E env))), (([] : Ups).map (·.1)))]) ps k ((d, v) :: env) mem next Q) : RD Y fn ops i tr ps k env mem next Q :=
  RD.p h (by have hj := (List.getElem?_eq_some_iff.1 hv).1; simp [AOp.map, act, ptrCells, AOpd.lk_get hx, ld_one hv]; omega) h'
theorem RD.ldR {x : AOpd} {id n j es mc : Nat} {fl : Bool} {cs : List AV} {xs : List (List AV)} (h : ops = ⟨some d, .ld 1 false x, none⟩ :: rest) (hx : x.lk env = some (.elt id n j)) (hm : look mem id = some (.row fl es mc xs)) (hc : xs[n]? = some cs) (hv : cs[j]? = some v) (h' : RD Y fn rest (i + 1) (tr ++ [(touchOf (look mem) ((.ld 1 false x : AOp AOpd).map (AOpd.get (E env))), (([] : Ups).map (·.1)))]) ps k ((d, v) :: env) mem next Q) : RD Y fn ops i tr ps k env mem next Q :=
  RD.p h (by have hj := (List.getElem?_eq_some_iff.1 hv).1; simp [AOp.map, act, ptrCells, AOpd.lk_get hx, hm, hc, ld_one hv]; omega) h'
theorem RD.aE {x : AOpd} {id sz : Nat} {cs : List AV} (h : ops = ⟨some d, .ld sz true x, none⟩ :: rest) (hx : x.lk env = some (.elt id 0 0)) (hm : look mem id = some (.box cs)) (hl : cs.length = sz) (h' : RD Y fn rest (i + 1) (tr ++ [(touchOf (look mem) ((.ld sz true x : AOp AOpd).map (AOpd.get (E env))), (([] : Ups).map (·.1)))]) ps k ((d, .agg cs) :: env) mem next Q) : RD Y fn ops i tr ps k env mem next Q :=
  RD.p h (by subst hl; simp [AOp.map, act, ptrCells, AOpd.lk_get hx, hm, one]) h'
theorem RD.aF {x : AOpd} {sz : Nat} {cs : List AV} (h : ops = ⟨some d, .ld sz true x, none⟩ :: rest) (hx : x.lk env = some (.fptr cs 0)) (hl : cs.length = sz) (h' : RD Y fn rest (i + 1) (tr ++ [(touchOf (look mem) ((.ld sz true x : AOp AOpd).map (AOpd.get (E env))), (([] : Ups).map (·.1)))]) ps k ((d, .agg cs) :: env) mem next Q) : RD Y fn ops i tr ps k env mem next Q :=
  RD.p h (by subst hl; simp [AOp.map, act, ptrCells, AOpd.lk_get hx, one]) h'
theorem RD.aR {x : AOpd} {id n sz es mc : Nat} {fl : Bool} {cs : List AV} {xs : List (List AV)} (h : ops = ⟨some d, .ld sz true x, none⟩ :: rest) (hx : x.lk env = some (.elt id n 0)) (hm : look mem id = some (.row fl es mc xs)) (hc : xs[n]? = some cs) (hl : cs.length = sz) (h' : RD Y fn rest (i + 1) (tr ++ [(touchOf (look mem) ((.ld sz true x : AOp AOpd).map (AOpd.get (E env))), (([] : Ups).map (·.1)))]) ps k ((d, .agg cs) :: env) mem next Q) : RD Y fn ops i tr ps k env mem next Q :=
  RD.p h (by subst hl; simp [AOp.map, act, ptrCells, AOpd.lk_get hx, hm, hc, one]) h'
theorem RD.aP {x : AOpd} {sz j : Nat} {cs ds : List AV} {p : AV} (h : ops = ⟨some d, .ld sz true x, none⟩ :: rest) (hp : ptrCells (look mem) p = some (cs, j)) (hx : x.lk env = some p) (hd : (cs.drop j).take sz = ds) (hl : j + sz ≤ cs.length) (h' : RD Y fn rest (i + 1) (tr ++ [(touchOf (look mem) ((.ld sz true x : AOp AOpd).map (AOpd.get (E env))), (([] : Ups).map (·.1)))]) ps k ((d, .agg ds) :: env) mem next Q) : RD Y fn ops i tr ps k env mem next Q :=
  RD.p h (by simp [AOp.map, act, AOpd.lk_get hx, hp, one, hd, hl]) h'
theorem RD.st1 {x y : AOpd} {id j : Nat} {cs : List AV} (h : ops = ⟨none, .st 1 x y, none⟩ :: rest) (hx : x.lk env = some (.elt id 0 j)) (hy : y.lk env = some v) (hv : v.cells = some [v]) (hm : look mem id = some (.box cs)) (hj : j < cs.length) (h' : RD Y fn rest (i + 1) (tr ++ [(touchOf (look mem) ((.st 1 x y : AOp AOpd).map (AOpd.get (E env))), ([((id, .box (cs.set j v)) : Nat × AObj)].map (·.1)))]) ps k env ((id, .box (cs.set j v)) :: mem) next Q) : RD Y fn ops i tr ps k env mem next Q :=
  RD.n1 (v := .junk) h (by have hj' : j + 1 ≤ cs.length := hj; simp [AOp.map, act, AOpd.lk_get hx, AOpd.lk_get hy, hv, hm, lay_one hj, hj']) h'
theorem RD.stA {x y : AOpd} {id sz : Nat} {cs ds : List AV} (h : ops = ⟨none, .st sz x y, none⟩ :: rest) (hx : x.lk env = some (.elt id 0 0)) (hy : y.lk env = some (.agg ds)) (hm : look mem id = some (.box cs)) (hl : cs.length = sz) (hd : ds.length = sz) (h' : RD Y fn rest (i + 1) (tr ++ [(touchOf (look mem) ((.st sz x y : AOp AOpd).map (AOpd.get (E env))), ([((id, .box ds) : Nat × AObj)].map (·.1)))]) ps k env ((id, .box ds) :: mem) next Q) : RD Y fn ops i tr ps k env mem next Q :=
  RD.n1 (v := .junk) h (by subst hl; simp [AOp.map, act, AOpd.lk_get hx, AOpd.lk_get hy, AV.cells, hd, hm, lay_all hd.symm]) h'
theorem RD.stR {x y : AOpd} {id n j sz es mc : Nat} {fl : Bool} {xs : List (List AV)} {cs ds qs : List AV} (h : ops = ⟨none, .st sz x y, none⟩ :: rest) (hx : x.lk env = some (.elt id n j)) (hy : y.lk env = some v) (hv : v.cells = some ds) (hd : ds.length = sz) (hm : look mem id = some (.row fl es mc xs)) (hp : ds.all AV.plain = true) (hc : xs[n]? = some cs) (hl : j + sz ≤ cs.length) (hq : lay cs j ds = qs) (h' : RD Y fn rest (i + 1) (tr ++ [(touchOf (look mem) ((.st sz x y : AOp AOpd).map (AOpd.get (E env))), ([((id, .row (fl && ds.all AV.lit) es mc (xs.set n qs)) : Nat × AObj)].map (·.1)))]) ps k env ((id, .row (fl && ds.all AV.lit) es mc (xs.set n qs)) :: mem) next Q) : RD Y fn ops i tr ps k env mem next Q :=
  RD.n1 (v := .junk) h (by simp [AOp.map, act, AOpd.lk_get hx, AOpd.lk_get hy, hv, hd, hm, fz_plain hp, hc, hl, hq]) h'
theorem RD.nc {x : AOpd} {id n j : Nat} (h : ops = ⟨some d, .nc x, none⟩ :: rest) (hx : x.lk env = some (.elt id n j)) (h' : RD Y fn rest (i + 1) (tr ++ [(touchOf (look mem) ((.nc x : AOp AOpd).map (AOpd.get (E env))), (([] : Ups).map (·.1)))]) ps k ((d, .elt id n j) :: env) mem next Q) : RD Y fn ops i tr ps k env mem next Q :=
  RD.p h (by simp [AOp.map, act, AOpd.lk_get hx]) h'
theorem RD.add {x y : AOpd} {a b : Int} (h : ops = ⟨some d, .bin .add x y, none⟩ :: rest) (hx : x.lk env = some (.i .i64 a)) (hy : y.lk env = some (.i .i64 b)) (hb : -9223372036854775808 ≤ a + b ∧ a + b ≤ 9223372036854775807) (h' : RD Y fn rest (i + 1) (tr ++ [(touchOf (look mem) ((.bin .add x y : AOp AOpd).map (AOpd.get (E env))), (([] : Ups).map (·.1)))]) ps k ((d, .i .i64 (a + b)) :: env) mem next Q) : RD Y fn ops i tr ps k env mem next Q :=
  RD.p h (by simp [AOp.map, act, AOpd.lk_get hx, AOpd.lk_get hy, binOf, binI, wrap64 hb]) h'
theorem RD.sub {x y : AOpd} {a b : Int} (h : ops = ⟨some d, .bin .sub x y, none⟩ :: rest) (hx : x.lk env = some (.i .i64 a)) (hy : y.lk env = some (.i .i64 b)) (hb : -9223372036854775808 ≤ a - b ∧ a - b ≤ 9223372036854775807) (h' : RD Y fn rest (i + 1) (tr ++ [(touchOf (look mem) ((.bin .sub x y : AOp AOpd).map (AOpd.get (E env))), (([] : Ups).map (·.1)))]) ps k ((d, .i .i64 (a - b)) :: env) mem next Q) : RD Y fn ops i tr ps k env mem next Q :=
  RD.p h (by simp [AOp.map, act, AOpd.lk_get hx, AOpd.lk_get hy, binOf, binI, wrap64 hb]) h'
theorem RD.mul {x y : AOpd} {a b : Int} (h : ops = ⟨some d, .bin .mul x y, none⟩ :: rest) (hx : x.lk env = some (.i .i64 a)) (hy : y.lk env = some (.i .i64 b)) (hb : -9223372036854775808 ≤ a * b ∧ a * b ≤ 9223372036854775807) (h' : RD Y fn rest (i + 1) (tr ++ [(touchOf (look mem) ((.bin .mul x y : AOp AOpd).map (AOpd.get (E env))), (([] : Ups).map (·.1)))]) ps k ((d, .i .i64 (a * b)) :: env) mem next Q) : RD Y fn ops i tr ps k env mem next Q :=
  RD.p h (by simp [AOp.map, act, AOpd.lk_get hx, AOpd.lk_get hy, binOf, binI, wrap64 hb]) h'
theorem RD.rem {x y : AOpd} {a b : Int} (h : ops = ⟨some d, .bin .rem x y, none⟩ :: rest) (hx : x.lk env = some (.i .i64 a)) (hy : y.lk env = some (.i .i64 b)) (hb : b ≠ 0) (h' : RD Y fn rest (i + 1) (tr ++ [(touchOf (look mem) ((.bin .rem x y : AOp AOpd).map (AOpd.get (E env))), (([] : Ups).map (·.1)))]) ps k ((d, .i .i64 (a.tmod b)) :: env) mem next Q) : RD Y fn ops i tr ps k env mem next Q :=
  RD.p h (by simp [AOp.map, act, AOpd.lk_get hx, AOpd.lk_get hy, binOf, binI, hb]) h'
theorem RD.quo {x y : AOpd} {a b : Int} (h : ops = ⟨some d, .bin .quo x y, none⟩ :: rest) (hx : x.lk env = some (.i .i64 a)) (hy : y.lk env = some (.i .i64 b)) (h0 : b ≠ 0) (hb : -9223372036854775808 ≤ a.tdiv b ∧ a.tdiv b ≤ 9223372036854775807) (h' : RD Y fn rest (i + 1) (tr ++ [(touchOf (look mem) ((.bin .quo x y : AOp AOpd).map (AOpd.get (E env))), (([] : Ups).map (·.1)))]) ps k ((d, .i .i64 (a.tdiv b)) :: env) mem next Q) : RD Y fn ops i tr ps k env mem next Q :=
  RD.p h (by simp [AOp.map, act, AOpd.lk_get hx, AOpd.lk_get hy, binOf, binI, h0, wrap64 hb]) h'
theorem RD.lssT {x y : AOpd} {kk : IntKind} {a b : Int} (h : ops = ⟨some d, .bin .lss x y, none⟩ :: rest) (hx : x.lk env = some (.i kk a)) (hy : y.lk env = some (.i kk b)) (hp : a < b) (h' : RD Y fn rest (i + 1) (tr ++ [(touchOf (look mem) ((.bin .lss x y : AOp AOpd).map (AOpd.get (E env))), (([] : Ups).map (·.1)))]) ps k ((d, .b true) :: env) mem next Q) : RD Y fn ops i tr ps k env mem next Q :=
  RD.p h (by simp [AOp.map, act, AOpd.lk_get hx, AOpd.lk_get hy, binOf, binI, hp]) h'
theorem RD.lssF {x y : AOpd} {kk : IntKind} {a b : Int} (h : ops = ⟨some d, .bin .lss x y, none⟩ :: rest) (hx : x.lk env = some (.i kk a)) (hy : y.lk env = some (.i kk b)) (hp : ¬ (a < b)) (h' : RD Y fn rest (i + 1) (tr ++ [(touchOf (look mem) ((.bin .lss x y : AOp AOpd).map (AOpd.get (E env))), (([] : Ups).map (·.1)))]) ps k ((d, .b false) :: env) mem next Q) : RD Y fn ops i tr ps k env mem next Q :=
  RD.p h (by simp [AOp.map, act, AOpd.lk_get hx, AOpd.lk_get hy, binOf, binI]; simpa using hp) h'
theorem RD.leqT {x y : AOpd} {kk : IntKind} {a b : Int} (h : ops = ⟨some d, .bin .leq x y, none⟩ :: rest) (hx : x.lk env = some (.i kk a)) (hy : y.lk env = some (.i kk b)) (hp : a ≤ b) (h' : RD Y fn rest (i + 1) (tr ++ [(touchOf (look mem) ((.bin .leq x y : AOp AOpd).map (AOpd.get (E env))), (([] : Ups).map (·.1)))]) ps k ((d, .b true) :: env) mem next Q) : RD Y fn ops i tr ps k env mem next Q :=
  RD.p h (by simp [AOp.map, act, AOpd.lk_get hx, AOpd.lk_get hy, binOf, binI, hp]) h'
theorem RD.leqF {x y : AOpd} {kk : IntKind} {a b : Int} (h : ops = ⟨some d, .bin .leq x y, none⟩ :: rest) (hx : x.lk env = some (.i kk a)) (hy : y.lk env = some (.i kk b)) (hp : ¬ (a ≤ b)) (h' : RD Y fn rest (i + 1) (tr ++ [(touchOf (look mem) ((.bin .leq x y : AOp AOpd).map (AOpd.get (E env))), (([] : Ups).map (·.1)))]) ps k ((d, .b false) :: env) mem next Q) : RD Y fn ops i tr ps k env mem next Q :=
  RD.p h (by simp [AOp.map, act, AOpd.lk_get hx, AOpd.lk_get hy, binOf, binI]; simpa using hp) h'
theorem RD.gtrT {x y : AOpd} {kk : IntKind} {a b : Int} (h : ops = ⟨some d, .bin .gtr x y, none⟩ :: rest) (hx : x.lk env = some (.i kk a)) (hy : y.lk env = some (.i kk b)) (hp : a > b) (h' : RD Y fn rest (i + 1) (tr ++ [(touchOf (look mem) ((.bin .gtr x y : AOp AOpd).map (AOpd.get (E env))), (([] : Ups).map (·.1)))]) ps k ((d, .b true) :: env) mem next Q) : RD Y fn ops i tr ps k env mem next Q :=
  RD.p h (by simp [AOp.map, act, AOpd.lk_get hx, AOpd.lk_get hy, binOf, binI, hp]) h'
theorem RD.gtrF {x y : AOpd} {kk : IntKind} {a b : Int} (h : ops = ⟨some d, .bin .gtr x y, none⟩ :: rest) (hx : x.lk env = some (.i kk a)) (hy : y.lk env = some (.i kk b)) (hp : ¬ (a > b)) (h' : RD Y fn rest (i + 1) (tr ++ [(touchOf (look mem) ((.bin .gtr x y : AOp AOpd).map (AOpd.get (E env))), (([] : Ups).map (·.1)))]) ps k ((d, .b false) :: env) mem next Q) : RD Y fn ops i tr ps k env mem next Q :=
  RD.p h (by simp [AOp.map, act, AOpd.lk_get hx, AOpd.lk_get hy, binOf, binI]; simpa using hp) h'
theorem RD.geqT {x y : AOpd} {kk : IntKind} {a b : Int} (h : ops = ⟨some d, .bin .geq x y, none⟩ :: rest) (hx : x.lk env = some (.i kk a)) (hy : y.lk env = some (.i kk b)) (hp : a ≥ b) (h' : RD Y fn rest (i + 1) (tr ++ [(touchOf (look mem) ((.bin .geq x y : AOp AOpd).map (AOpd.get (E env))), (([] : Ups).map (·.1)))]) ps k ((d, .b true) :: env) mem next Q) : RD Y fn ops i tr ps k env mem next Q :=
  RD.p h (by simp [AOp.map, act, AOpd.lk_get hx, AOpd.lk_get hy, binOf, binI, hp]) h'
theorem RD.geqF {x y : AOpd} {kk : IntKind} {a b : Int} (h : ops = ⟨some d, .bin .geq x y, none⟩ :: rest) (hx : x.lk env = some (.i kk a)) (hy : y.lk env = some (.i kk b)) (hp : ¬ (a ≥ b)) (h' : RD Y fn rest (i + 1) (tr ++ [(touchOf (look mem) ((.bin .geq x y : AOp AOpd).map (AOpd.get (E env))), (([] : Ups).map (·.1)))]) ps k ((d, .b false) :: env) mem next Q) : RD Y fn ops i tr ps k env mem next Q :=
  RD.p h (by simp [AOp.map, act, AOpd.lk_get hx, AOpd.lk_get hy, binOf, binI]; simpa using hp) h'
theorem RD.eqlT {x y : AOpd} {kk : IntKind} {a b : Int} (h : ops = ⟨some d, .bin .eql x y, none⟩ :: rest) (hx : x.lk env = some (.i kk a)) (hy : y.lk env = some (.i kk b)) (hp : a = b) (h' : RD Y fn rest (i + 1) (tr ++ [(touchOf (look mem) ((.bin .eql x y : AOp AOpd).map (AOpd.get (E env))), (([] : Ups).map (·.1)))]) ps k ((d, .b true) :: env) mem next Q) : RD Y fn ops i tr ps k env mem next Q :=
  RD.p h (by simp [AOp.map, act, AOpd.lk_get hx, AOpd.lk_get hy, binOf, binI, hp]) h'
theorem RD.eqlF {x y : AOpd} {kk : IntKind} {a b : Int} (h : ops = ⟨some d, .bin .eql x y, none⟩ :: rest) (hx : x.lk env = some (.i kk a)) (hy : y.lk env = some (.i kk b)) (hp : ¬ (a = b)) (h' : RD Y fn rest (i + 1) (tr ++ [(touchOf (look mem) ((.bin .eql x y : AOp AOpd).map (AOpd.get (E env))), (([] : Ups).map (·.1)))]) ps k ((d, .b false) :: env) mem next Q) : RD Y fn ops i tr ps k env mem next Q :=
  RD.p h (by simp [AOp.map, act, AOpd.lk_get hx, AOpd.lk_get hy, binOf, binI]; simpa using hp) h'
theorem RD.neqT {x y : AOpd} {kk : IntKind} {a b : Int} (h : ops = ⟨some d, .bin .neq x y, none⟩ :: rest) (hx : x.lk env = some (.i kk a)) (hy : y.lk env = some (.i kk b)) (hp : a ≠ b) (h' : RD Y fn rest (i + 1) (tr ++ [(touchOf (look mem) ((.bin .neq x y : AOp AOpd).map (AOpd.get (E env))), (([] : Ups).map (·.1)))]) ps k ((d, .b true) :: env) mem next Q) : RD Y fn ops i tr ps k env mem next Q :=
  RD.p h (by simp [AOp.map, act, AOpd.lk_get hx, AOpd.lk_get hy, binOf, binI]; exact hp) h'
theorem RD.neqF {x y : AOpd} {kk : IntKind} {a b : Int} (h : ops = ⟨some d, .bin .neq x y, none⟩ :: rest) (hx : x.lk env = some (.i kk a)) (hy : y.lk env = some (.i kk b)) (hp : ¬ (a ≠ b)) (h' : RD Y fn rest (i + 1) (tr ++ [(touchOf (look mem) ((.bin .neq x y : AOp AOpd).map (AOpd.get (E env))), (([] : Ups).map (·.1)))]) ps k ((d, .b false) :: env) mem next Q) : RD Y fn ops i tr ps k env mem next Q :=
  RD.p h (by have hp := Classical.not_not.1 hp; simp [AOp.map, act, AOpd.lk_get hx, AOpd.lk_get hy, binOf, binI, hp]) h'
theorem RD.sT {x y : AOpd} {a b : ByteArray} (h : ops = ⟨some d, .bin .eql x y, none⟩ :: rest) (hx : x.lk env = some (.s a)) (hy : y.lk env = some (.s b)) (hp : a = b) (h' : RD Y fn rest (i + 1) (tr ++ [(touchOf (look mem) ((.bin .eql x y : AOp AOpd).map (AOpd.get (E env))), (([] : Ups).map (·.1)))]) ps k ((d, .b true) :: env) mem next Q) : RD Y fn ops i tr ps k env mem next Q :=
  RD.p h (by subst hp; simp [AOp.map, act, AOpd.lk_get hx, AOpd.lk_get hy, binOf]) h'
theorem RD.sF {x y : AOpd} {a b : ByteArray} (h : ops = ⟨some d, .bin .eql x y, none⟩ :: rest) (hx : x.lk env = some (.s a)) (hy : y.lk env = some (.s b)) (hp : a ≠ b) (h' : RD Y fn rest (i + 1) (tr ++ [(touchOf (look mem) ((.bin .eql x y : AOp AOpd).map (AOpd.get (E env))), (([] : Ups).map (·.1)))]) ps k ((d, .b false) :: env) mem next Q) : RD Y fn ops i tr ps k env mem next Q :=
  RD.p h (by simp [AOp.map, act, AOpd.lk_get hx, AOpd.lk_get hy, binOf]; exact fun e => hp (ba_ext e)) h'
theorem RD.snT {x y : AOpd} {a b : ByteArray} (h : ops = ⟨some d, .bin .neq x y, none⟩ :: rest) (hx : x.lk env = some (.s a)) (hy : y.lk env = some (.s b)) (hp : a ≠ b) (h' : RD Y fn rest (i + 1) (tr ++ [(touchOf (look mem) ((.bin .neq x y : AOp AOpd).map (AOpd.get (E env))), (([] : Ups).map (·.1)))]) ps k ((d, .b true) :: env) mem next Q) : RD Y fn ops i tr ps k env mem next Q :=
  RD.p h (by simp [AOp.map, act, AOpd.lk_get hx, AOpd.lk_get hy, binOf]; exact fun e => hp (ba_ext e)) h'
theorem RD.snF {x y : AOpd} {a b : ByteArray} (h : ops = ⟨some d, .bin .neq x y, none⟩ :: rest) (hx : x.lk env = some (.s a)) (hy : y.lk env = some (.s b)) (hp : a = b) (h' : RD Y fn rest (i + 1) (tr ++ [(touchOf (look mem) ((.bin .neq x y : AOp AOpd).map (AOpd.get (E env))), (([] : Ups).map (·.1)))]) ps k ((d, .b false) :: env) mem next Q) : RD Y fn ops i tr ps k env mem next Q :=
  RD.p h (by subst hp; simp [AOp.map, act, AOpd.lk_get hx, AOpd.lk_get hy, binOf]) h'
theorem RD.bne {x y : AOpd} {a b : Bool} (h : ops = ⟨some d, .eqb true x y, none⟩ :: rest) (hx : x.lk env = some (.b a)) (hy : y.lk env = some (.b b)) (h' : RD Y fn rest (i + 1) (tr ++ [(touchOf (look mem) ((.eqb true x y : AOp AOpd).map (AOpd.get (E env))), (([] : Ups).map (·.1)))]) ps k ((d, .b (!(a == b))) :: env) mem next Q) : RD Y fn ops i tr ps k env mem next Q :=
  RD.p h (by simp [AOp.map, act, AOpd.lk_get hx, AOpd.lk_get hy]) h'
theorem RD.not {x : AOpd} {a : Bool} (h : ops = ⟨some d, .un .not x, none⟩ :: rest) (hx : x.lk env = some (.b a)) (h' : RD Y fn rest (i + 1) (tr ++ [(touchOf (look mem) ((.un .not x : AOp AOpd).map (AOpd.get (E env))), (([] : Ups).map (·.1)))]) ps k ((d, .b (!a)) :: env) mem next Q) : RD Y fn ops i tr ps k env mem next Q :=
  RD.p h (by simp [AOp.map, act, AOpd.lk_get hx]) h'
theorem RD.notT {x : AOpd} (h : ops = ⟨some d, .un .not x, none⟩ :: rest) (hx : x.lk env = some (.b true)) (h' : RD Y fn rest (i + 1) (tr ++ [(touchOf (look mem) ((.un .not x : AOp AOpd).map (AOpd.get (E env))), (([] : Ups).map (·.1)))]) ps k ((d, .b false) :: env) mem next Q) : RD Y fn ops i tr ps k env mem next Q :=
  RD.p h (by simp [AOp.map, act, AOpd.lk_get hx]) h'
theorem RD.notF {x : AOpd} (h : ops = ⟨some d, .un .not x, none⟩ :: rest) (hx : x.lk env = some (.b false)) (h' : RD Y fn rest (i + 1) (tr ++ [(touchOf (look mem) ((.un .not x : AOp AOpd).map (AOpd.get (E env))), (([] : Ups).map (·.1)))]) ps k ((d, .b true) :: env) mem next Q) : RD Y fn ops i tr ps k env mem next Q :=
  RD.p h (by simp [AOp.map, act, AOpd.lk_get hx]) h'
theorem RD.fa {x : AOpd} {off id n j : Nat} (h : ops = ⟨some d, .fa off x, none⟩ :: rest) (hx : x.lk env = some (.elt id n j)) (h' : RD Y fn rest (i + 1) (tr ++ [(touchOf (look mem) ((.fa off x : AOp AOpd).map (AOpd.get (E env))), (([] : Ups).map (·.1)))]) ps k ((d, .elt id n (j + off)) :: env) mem next Q) : RD Y fn ops i tr ps k env mem next Q :=
  RD.p h (by simp [AOp.map, act, AOpd.lk_get hx]) h'
theorem RD.faF {x : AOpd} {off j : Nat} {cs : List AV} (h : ops = ⟨some d, .fa off x, none⟩ :: rest) (hx : x.lk env = some (.fptr cs j)) (h' : RD Y fn rest (i + 1) (tr ++ [(touchOf (look mem) ((.fa off x : AOp AOpd).map (AOpd.get (E env))), (([] : Ups).map (·.1)))]) ps k ((d, .fptr cs (j + off)) :: env) mem next Q) : RD Y fn ops i tr ps k env mem next Q :=
  RD.p h (by simp [AOp.map, act, AOpd.lk_get hx]) h'
theorem RD.fd {x : AOpd} {off : Nat} {cs : List AV} (h : ops = ⟨some d, .fd off 1 false x, none⟩ :: rest) (hx : x.lk env = some (.agg cs)) (hv : cs[off]? = some v) (h' : RD Y fn rest (i + 1) (tr ++ [(touchOf (look mem) ((.fd off 1 false x : AOp AOpd).map (AOpd.get (E env))), (([] : Ups).map (·.1)))]) ps k ((d, v) :: env) mem next Q) : RD Y fn ops i tr ps k env mem next Q :=
  RD.p h (by have hj := (List.getElem?_eq_some_iff.1 hv).1; simp [AOp.map, act, AOpd.lk_get hx, ld_one hv]; omega) h'
theorem RD.ia {x y : AOpd} {es n : Nat} {fl : Bool} {kk : IntKind} {xs : List (List AV)} {β : Type} {l : List β} {f : β → List AV} [hw : Rw xs l f] {a : β} (h : ops = ⟨some d, .ia es x y, none⟩ :: rest) (hx : x.lk env = some (.fro fl es xs)) (hy : y.lk env = some (.i kk (n : Int))) (hc : l[n]? = some a) (h' : RD Y fn rest (i + 1) (tr ++ [(touchOf (look mem) ((.ia es x y : AOp AOpd).map (AOpd.get (E env))), (([] : Ups).map (·.1)))]) ps k ((d, .fptr (f a) 0) :: env) mem next Q) : RD Y fn ops i tr ps k env mem next Q :=
  RD.p h (by simp [AOp.map, act, AOpd.lk_get hx, AOpd.lk_get hy, getI_nat, hw.at hc]) h'
theorem RD.iaI {x y : AOpd} {es : Nat} {n : Int} {fl : Bool} {kk : IntKind} {xs : List (List AV)} {β : Type} {l : List β} {f : β → List AV} [hw : Rw xs l f] {a : β} (h : ops = ⟨some d, .ia es x y, none⟩ :: rest) (hx : x.lk env = some (.fro fl es xs)) (hy : y.lk env = some (.i kk n)) (hn : 0 ≤ n) (hc : l[n.toNat]? = some a) (h' : RD Y fn rest (i + 1) (tr ++ [(touchOf (look mem) ((.ia es x y : AOp AOpd).map (AOpd.get (E env))), (([] : Ups).map (·.1)))]) ps k ((d, .fptr (f a) 0) :: env) mem next Q) : RD Y fn ops i tr ps k env mem next Q :=
  RD.p h (by simp [AOp.map, act, AOpd.lk_get hx, AOpd.lk_get hy, getI, hn, hw.at hc]) h'
theorem RD.iaR {x y : AOpd} {es id n mc : Nat} {fl : Bool} {kk : IntKind} {xs : List (List AV)} (h : ops = ⟨some d, .ia es x y, none⟩ :: rest) (hx : x.lk env = some (.row id)) (hy : y.lk env = some (.i kk (n : Int))) (hm : look mem id = some (.row fl es mc xs)) (hc : n < xs.length) (h' : RD Y fn rest (i + 1) (tr ++ [(touchOf (look mem) ((.ia es x y : AOp AOpd).map (AOpd.get (E env))), (([] : Ups).map (·.1)))]) ps k ((d, .elt id n 0) :: env) mem next Q) : RD Y fn ops i tr ps k env mem next Q :=
  RD.p h (by simp [AOp.map, act, AOpd.lk_get hx, AOpd.lk_get hy, hm, hc]) h'
theorem RD.iaRI {x y : AOpd} {es id mc : Nat} {n : Int} {fl : Bool} {kk : IntKind} {xs : List (List AV)} (h : ops = ⟨some d, .ia es x y, none⟩ :: rest) (hx : x.lk env = some (.row id)) (hy : y.lk env = some (.i kk n)) (hm : look mem id = some (.row fl es mc xs)) (hn : 0 ≤ n) (hc : n < xs.length) (h' : RD Y fn rest (i + 1) (tr ++ [(touchOf (look mem) ((.ia es x y : AOp AOpd).map (AOpd.get (E env))), (([] : Ups).map (·.1)))]) ps k ((d, .elt id n.toNat 0) :: env) mem next Q) : RD Y fn ops i tr ps k env mem next Q :=
  RD.p h (by simp [AOp.map, act, AOpd.lk_get hx, AOpd.lk_get hy, hm, hn, hc]) h'
theorem RD.ex {x : AOpd} {n : Nat} {cs : List AV} (h : ops = ⟨some d, .ex x n, none⟩ :: rest) (hx : x.lk env = some (.tup cs)) (hv : cs[n]? = some v) (h' : RD Y fn rest (i + 1) (tr ++ [(touchOf (look mem) ((.ex x n : AOp AOpd).map (AOpd.get (E env))), (([] : Ups).map (·.1)))]) ps k ((d, v) :: env) mem next Q) : RD Y fn ops i tr ps k env mem next Q :=
  RD.p h (by simp [AOp.map, act, AOpd.lk_get hx, hv]) h'
theorem RD.len {x : AOpd} {n m : Nat} {w : AV} (h : ops = ⟨some d, .len false x, none⟩ :: rest) (hx : x.lk env = some w) (hl : lenOf (look mem) w = some n) [hn : Nm n m] (h' : RD Y fn rest (i + 1) (tr ++ [(touchOf (look mem) ((.len false x : AOp AOpd).map (AOpd.get (E env))), (([] : Ups).map (·.1)))]) ps k ((d, .i .i64 (m : Int)) :: env) mem next Q) : RD Y fn ops i tr ps k env mem next Q :=
  RD.p h (by simp [AOp.map, act, AOpd.lk_get hx, hl, ← hn.eq]) h'
theorem RD.ap {x y : AOpd} {es by_ id mc : Nat} {fl fl' : Bool} {xs ys : List (List AV)} {w : AV} (h : ops = ⟨some d, .ap es by_ x y, none⟩ :: rest) (hx : x.lk env = some (.row id)) (hm : look mem id = some (.row fl es mc xs)) (hy : y.lk env = some w) (hs : sliceOf (look mem) es w = some (fl', ys)) (hn : xs.length + ys.length ≤ 1000000000) (hb : by_ ≤ 1000) (h' : RD Y fn rest (i + 1) (tr ++ [(touchOf (look mem) ((.ap es by_ x y : AOp AOpd).map (AOpd.get (E env))), (([(id, .dead), (next + 16 * i, .row (fl && fl') es (max mc (xs.length + ys.length)) (xs ++ ys))] : Ups).map (·.1)))]) ps k ((d, .row (next + 16 * i)) :: env) (([(id, .dead), (next + 16 * i, .row (fl && fl') es (max mc (xs.length + ys.length)) (xs ++ ys))] : Ups).reverse ++ mem) next Q) : RD Y fn ops i tr ps k env mem next Q :=
  RD.u h (by have h1 : (xs.length + ys.length) * by_ ≤ 140737488355328 := Nat.le_trans (Nat.mul_le_mul hn hb) (by decide); have h2 : xs.length + ys.length ≤ 9223372036854775807 := Nat.le_trans hn (by decide); simp only [AOp.map, act, AOpd.lk_get hx, AOpd.lk_get hy, hs, Option.bind_some, apOf, apDst, hm, if_true, h1, h2, and_self]; rfl) h'
theorem RD.slF {x : AOpd} {lo hi : Option AOpd} {es l h' : Nat} {fl : Bool} {xs : List (List AV)} (h : ops = ⟨some d, .sl es x lo hi none, none⟩ :: rest) (hx : x.lk env = some (.fro fl es xs)) (he : es ≠ 0) (hlo : bndOf 0 (lo.map (AOpd.get (E env))) = some l) (hhi : bndOf xs.length (hi.map (AOpd.get (E env))) = some h') (hb : l ≤ h' ∧ h' ≤ xs.length) (h' : RD Y fn rest (i + 1) (tr ++ [(touchOf (look mem) ((.sl es x lo hi none : AOp AOpd).map (AOpd.get (E env))), (([] : Ups).map (·.1)))]) ps k ((d, .fro fl es ((xs.take h').drop l)) :: env) mem next Q) : RD Y fn ops i tr ps k env mem next Q :=
  RD.p h (by simp [AOp.map, act, slOf, AOpd.lk_get hx, he, hlo, hhi, bnd_none, hb.1, hb.2]) h'
theorem RD.slR {x : AOpd} {lo hi : Option AOpd} {es l h' id mc : Nat} {fl : Bool} {xs : List (List AV)} (h : ops = ⟨some d, .sl es x lo hi none, none⟩ :: rest) (hx : x.lk env = some (.row id)) (hm : look mem id = some (.row fl es mc xs)) (he : es ≠ 0) (hlo : bndOf 0 (lo.map (AOpd.get (E env))) = some l) (hhi : bndOf xs.length (hi.map (AOpd.get (E env))) = some h') (hb : l ≤ h' ∧ h' ≤ xs.length) (h' : RD Y fn rest (i + 1) (tr ++ [(touchOf (look mem) ((.sl es x lo hi none : AOp AOpd).map (AOpd.get (E env))), (([] : Ups).map (·.1)))]) ps k ((d, .view id l h') :: env) mem next Q) : RD Y fn ops i tr ps k env mem next Q :=
  RD.p h (by simp [AOp.map, act, slOf, AOpd.lk_get hx, hm, he, hlo, hhi, bnd_none, hb.1, hb.2]) h'
theorem RD.cv8 {x : AOpd} {u : UInt8} (h : ops = ⟨some d, .cvI .i64 x, none⟩ :: rest) (hx : x.lk env = some (.i .u8 (u.toNat : Int))) (h' : RD Y fn rest (i + 1) (tr ++ [(touchOf (look mem) ((.cvI .i64 x : AOp AOpd).map (AOpd.get (E env))), (([] : Ups).map (·.1)))]) ps k ((d, .i .i64 (u.toNat : Int)) :: env) mem next Q) : RD Y fn ops i tr ps k env mem next Q :=
  RD.p h (by have hu := u.toNat_lt; simp only [AOp.map, act, AOpd.lk_get hx]; rw [wrap64 (by omega)]) h'
theorem RD.quoN {x y : AOpd} {n m : Nat} (h : ops = ⟨some d, .bin .quo x y, none⟩ :: rest) (hx : x.lk env = some (.i .i64 (n : Int))) (hy : y.lk env = some (.i .i64 (m : Int))) (h0 : m ≠ 0) (hn : n ≤ 1000000000) (h' : RD Y fn rest (i + 1) (tr ++ [(touchOf (look mem) ((.bin .quo x y : AOp AOpd).map (AOpd.get (E env))), (([] : Ups).map (·.1)))]) ps k ((d, .i .i64 ((n / m : Nat) : Int)) :: env) mem next Q) : RD Y fn ops i tr ps k env mem next Q :=
  RD.p h (by have h1 : (m : Int) ≠ 0 := (by omega); have h2 : n / m ≤ n := Nat.div_le_self n m; have h3 : ((n : Int).tdiv m) = ((n / m : Nat) : Int) := rfl; have h5 : (0 : Int) ≤ ((n / m : Nat) : Int) := Int.natCast_nonneg _; simp only [AOp.map, act, AOpd.lk_get hx, AOpd.lk_get hy, binOf, binI, if_true, if_neg h1, Option.bind_some]; rw [h3, wrap64 (n := ((n / m : Nat) : Int)) ⟨(by omega), (by omega)⟩]) h'
theorem RD.cvI {x : AOpd} {kk ki : IntKind} {n : Int} (h : ops = ⟨some d, .cvI kk x, none⟩ :: rest) (hx : x.lk env = some (.i ki n)) (h' : RD Y fn rest (i + 1) (tr ++ [(touchOf (look mem) ((.cvI kk x : AOp AOpd).map (AOpd.get (E env))), (([] : Ups).map (·.1)))]) ps k ((d, .i kk (kk.wrap n)) :: env) mem next Q) : RD Y fn ops i tr ps k env mem next Q :=
  RD.p h (by simp [AOp.map, act, AOpd.lk_get hx]) h'
theorem RD.mf {f : Nat} {cs : List AOpd} (h : ops = ⟨some d, .mf f cs, none⟩ :: rest)  (h' : RD Y fn rest (i + 1) (tr ++ [(touchOf (look mem) ((.mf f cs : AOp AOpd).map (AOpd.get (E env))), (([] : Ups).map (·.1)))]) ps k ((d, .clo f (cs.map (AOpd.get (E env)))) :: env) mem next Q) : RD Y fn ops i tr ps k env mem next Q :=
  RD.p h (by simp [AOp.map, act]) h'
theorem RD.g {dst : Option Nat} {t : Nat} {b : Bool} (h : ops = ⟨dst, op, some (t, b)⟩ :: rest) (hg : look env t = some (.b b)) (h' : RD Y fn (⟨dst, op, none⟩ :: rest) i tr ps k env mem next Q) : RD Y fn ops i tr ps k env mem next Q := by subst h; obtain ⟨r, o, h1, h2⟩ := h'; exact ⟨r, o, h1, runs_guard hg h2⟩
theorem RD.gs {t : Nat} {b c : Bool} (h : ops = ⟨some d, op, some (t, b)⟩ :: rest) (hg : look env t = some (.b c)) (hb : c = !b) (h' : RD Y fn rest (i + 1) (tr ++ [([], [])]) ps k ((d, .tup []) :: env) mem next Q) : RD Y fn ops i tr ps k env mem next Q := RD.gn h (by simp [E, hg]) hb h'
theorem RD.gu {t : Nat} {b : Bool} (h : ops = ⟨some d, op, some (t, b)⟩ :: rest) (hg : look env t = some (.tup [])) (h' : RD Y fn rest (i + 1) (tr ++ [([], [])]) ps k ((d, .tup []) :: env) mem next Q) : RD Y fn ops i tr ps k env mem next Q := RD.gt h (by simp [E, hg]) h'
theorem RD.c {cf : AOpd} {as : List AOpd} {f : Nat} {caps pargs pargs' outs' : List AV} {sn : List Nat} {r' : AV} {mem' : Mem'} {n1 : Nat} (h : ops = ⟨some d, .call cf as, none⟩ :: rest) (hc : cf.lk env = some (.clo f caps)) (hp : prep (look mem) (Y.md f) (as.map (AOpd.get (E env)) ++ caps) = some (pargs, [], sn)) (hr : RF Y f pargs' r' outs') (hs : LeBs pargs pargs') [hi : ImpR (next + 16 * i) r' mem v mem' n1] (hb : backs n1 (look mem) (Y.md f) (as.map (AOpd.get (E env)) ++ caps) outs' = some ([], n1)) (hld : (r'.leads || outs'.any AV.leads) = false) (hlv : liveIds (look mem) sn = true) (hn : n1 ≤ next + 16 * i + 16)
    (h' : RD Y fn rest (i + 1) (tr ++ [(touchOf (look mem) ((AOp.call cf as).map (AOpd.get (E env))), newKeys mem' mem)]) ps k ((d, v) :: env) mem' next Q) : RD Y fn ops i tr ps k env mem next Q := by
  obtain ⟨ui, h1, h2⟩ := fin_of (md := Y.md f) (d := []) (sn := sn) (z := []) hi hb (by rw [hld]; simp [hlv, putM]) hn
  subst h1
  exact RD.call h (AOpd.lk_get hc) hp (hr.sub hs) h2 (by rw [newKeys_app] at h'; simpa using h')
theorem RD.cz {cf : AOpd} {as : List AOpd} {f : Nat} {caps pargs pargs' outs' : List AV} {sn : List Nat} {r' : AV} {mem' : Mem'} {n1 : Nat} {z : Ups} (h : ops = ⟨some d, .call cf as, none⟩ :: rest) (hc : cf.lk env = some (.clo f caps)) (hp : prep (look mem) (Y.md f) (as.map (AOpd.get (E env)) ++ caps) = some (pargs, [], sn)) (hr : RF Y f pargs' r' outs') (hs : LeBs pargs pargs') [hi : ImpR (next + 16 * i) r' (z.reverse ++ mem) v mem' n1] (hb : backs n1 (look mem) (Y.md f) (as.map (AOpd.get (E env)) ++ caps) outs' = some ([], n1)) (hld : (r'.leads || outs'.any AV.leads) = true) (hlv : freezeIds (look mem) sn = some z) (hn : n1 ≤ next + 16 * i + 16)
    (h' : RD Y fn rest (i + 1) (tr ++ [(touchOf (look mem) ((AOp.call cf as).map (AOpd.get (E env))), newKeys mem' mem)]) ps k ((d, v) :: env) mem' next Q) : RD Y fn ops i tr ps k env mem next Q := by
  obtain ⟨ui, h1, h2⟩ := fin_of (md := Y.md f) (d := []) (sn := sn) (z := z) hi hb (by rw [hld]; simp [hlv, putM]) hn
  subst h1
  exact RD.call h (AOpd.lk_get hc) hp (hr.sub hs) h2 (by rw [← List.append_assoc, newKeys_app] at h'; simpa using h')
theorem RD.cPz {cf : AOpd} {as : List AOpd} {f : Nat} {caps pargs pargs' : List AV} {sn : List Nat} {r' : AV} {mem' : Mem'} {n1 : Nat} {id : Nat} {z : Ups} {cs cs' : List AV} {mem2 : Mem'} {n2 : Nat} (h : ops = ⟨some d, .call cf as, none⟩ :: rest) (hc : cf.lk env = some (.clo f caps)) (hp : prep (look mem) (Y.md f) (as.map (AOpd.get (E env)) ++ caps) = some (pargs, [(id, .dead)], sn)) (hr : RF Y f pargs' r' [.obx cs 0]) (hs : LeBs pargs pargs') [hi : ImpR (next + 16 * i) r' (z.reverse ++ (id, .dead) :: mem) v mem' n1] [hj : ImpC n1 cs mem' cs' mem2 n2] (hb : backs n1 (look mem) (Y.md f) (as.map (AOpd.get (E env)) ++ caps) [.obx cs 0] = some ((impCells n1 cs).2.1 ++ [(id, .box (impCells n1 cs).1)], (impCells n1 cs).2.2)) (hld : (r'.leads || [AV.obx cs 0].any AV.leads) = true) (hlv : freezeIds (putM (look mem) [(id, .dead)]) sn = some z) (hn : n2 ≤ next + 16 * i + 16)
    (h' : RD Y fn rest (i + 1) (tr ++ [(touchOf (look mem) ((AOp.call cf as).map (AOpd.get (E env))), newKeys ((id, .box cs') :: mem2) mem)]) ps k ((d, v) :: env) ((id, .box cs') :: mem2) next Q) : RD Y fn ops i tr ps k env mem next Q := by
  obtain ⟨uj, j1, j2⟩ := hj.eq
  rw [j1] at hb
  obtain ⟨ui, h1, h2⟩ := fin_of (md := Y.md f) (d := [(id, .dead)]) (sn := sn) (z := z) hi hb (by rw [hld]; simp [hlv]) hn
  subst h1; subst j2
  exact RD.call h (AOpd.lk_get hc) hp (hr.sub hs) h2 (by rw [show ((id, AObj.box cs') :: (uj.reverse ++ (ui.reverse ++ (z.reverse ++ (id, AObj.dead) :: mem))) : Mem') = ((id, AObj.box cs') :: (uj.reverse ++ (ui.reverse ++ (z.reverse ++ [(id, AObj.dead)])))) ++ mem by simp, newKeys_app] at h'; simpa using h')
theorem RD.cM {cf : AOpd} {as : List AOpd} {f : Nat} {caps pargs pargs' outs' : List AV} {sn : List Nat} {r' : AV} {mem' : Mem'} {n1 : Nat} {dd z ub : Ups} {n2 : Nat} (h : ops = ⟨some d, .call cf as, none⟩ :: rest) (hc : cf.lk env = some (.clo f caps)) (hp : prep (look mem) (Y.md f) (as.map (AOpd.get (E env)) ++ caps) = some (pargs, dd, sn)) (hr : RF Y f pargs' r' outs') (hs : LeBs pargs pargs') [hi : ImpR (next + 16 * i) r' (z.reverse ++ (dd.reverse ++ mem)) v mem' n1] (hb : backs n1 (look mem) (Y.md f) (as.map (AOpd.get (E env)) ++ caps) outs' = some (ub, n2)) (hz : (if r'.leads || outs'.any AV.leads then freezeIds (putM (look mem) dd) sn else if liveIds (putM (look mem) dd) sn then some [] else none) = some z) (hn : n2 ≤ next + 16 * i + 16)
    (h' : RD Y fn rest (i + 1) (tr ++ [(touchOf (look mem) ((AOp.call cf as).map (AOpd.get (E env))), newKeys (ub.reverse ++ mem') mem)]) ps k ((d, v) :: env) (ub.reverse ++ mem') next Q) : RD Y fn ops i tr ps k env mem next Q := by
  obtain ⟨ui, h1, h2⟩ := fin_of (md := Y.md f) (d := dd) (sn := sn) (z := z) hi hb hz hn
  subst h1
  exact RD.call h (AOpd.lk_get hc) hp (hr.sub hs) h2 (by rw [show (ub.reverse ++ (ui.reverse ++ (z.reverse ++ (dd.reverse ++ mem))) : Mem') = (ub.reverse ++ (ui.reverse ++ (z.reverse ++ dd.reverse))) ++ mem by simp, newKeys_app] at h'; simpa using h')
theorem RD.lss {x y : AOpd} {kk : IntKind} {a b : Int} (h : ops = ⟨some d, .bin .lss x y, none⟩ :: rest) (hx : x.lk env = some (.i kk a)) (hy : y.lk env = some (.i kk b)) (hT : a < b → RD Y fn rest (i + 1) (tr ++ [(touchOf (look mem) ((.bin .lss x y : AOp AOpd).map (AOpd.get (E env))), (([] : Ups).map (·.1)))]) ps k ((d, .b true) :: env) mem next Q) (hF : ¬ (a < b) → RD Y fn rest (i + 1) (tr ++ [(touchOf (look mem) ((.bin .lss x y : AOp AOpd).map (AOpd.get (E env))), (([] : Ups).map (·.1)))]) ps k ((d, .b false) :: env) mem next Q) : RD Y fn ops i tr ps k env mem next Q := by
  by_cases hp : a < b
  · exact RD.lssT h hx hy hp (hT hp)
  · exact RD.lssF h hx hy hp (hF hp)
theorem RD.leq {x y : AOpd} {kk : IntKind} {a b : Int} (h : ops = ⟨some d, .bin .leq x y, none⟩ :: rest) (hx : x.lk env = some (.i kk a)) (hy : y.lk env = some (.i kk b)) (hT : a ≤ b → RD Y fn rest (i + 1) (tr ++ [(touchOf (look mem) ((.bin .leq x y : AOp AOpd).map (AOpd.get (E env))), (([] : Ups).map (·.1)))]) ps k ((d, .b true) :: env) mem next Q) (hF : ¬ (a ≤ b) → RD Y fn rest (i + 1) (tr ++ [(touchOf (look mem) ((.bin .leq x y : AOp AOpd).map (AOpd.get (E env))), (([] : Ups).map (·.1)))]) ps k ((d, .b false) :: env) mem next Q) : RD Y fn ops i tr ps k env mem next Q := by
  by_cases hp : a ≤ b
  · exact RD.leqT h hx hy hp (hT hp)
  · exact RD.leqF h hx hy hp (hF hp)
theorem RD.gtr {x y : AOpd} {kk : IntKind} {a b : Int} (h : ops = ⟨some d, .bin .gtr x y, none⟩ :: rest) (hx : x.lk env = some (.i kk a)) (hy : y.lk env = some (.i kk b)) (hT : a > b → RD Y fn rest (i + 1) (tr ++ [(touchOf (look mem) ((.bin .gtr x y : AOp AOpd).map (AOpd.get (E env))), (([] : Ups).map (·.1)))]) ps k ((d, .b true) :: env) mem next Q) (hF : ¬ (a > b) → RD Y fn rest (i + 1) (tr ++ [(touchOf (look mem) ((.bin .gtr x y : AOp AOpd).map (AOpd.get (E env))), (([] : Ups).map (·.1)))]) ps k ((d, .b false) :: env) mem next Q) : RD Y fn ops i tr ps k env mem next Q := by
  by_cases hp : a > b
  · exact RD.gtrT h hx hy hp (hT hp)
  · exact RD.gtrF h hx hy hp (hF hp)
theorem RD.geq {x y : AOpd} {kk : IntKind} {a b : Int} (h : ops = ⟨some d, .bin .geq x y, none⟩ :: rest) (hx : x.lk env = some (.i kk a)) (hy : y.lk env = some (.i kk b)) (hT : a ≥ b → RD Y fn rest (i + 1) (tr ++ [(touchOf (look mem) ((.bin .geq x y : AOp AOpd).map (AOpd.get (E env))), (([] : Ups).map (·.1)))]) ps k ((d, .b true) :: env) mem next Q) (hF : ¬ (a ≥ b) → RD Y fn rest (i + 1) (tr ++ [(touchOf (look mem) ((.bin .geq x y : AOp AOpd).map (AOpd.get (E env))), (([] : Ups).map (·.1)))]) ps k ((d, .b false) :: env) mem next Q) : RD Y fn ops i tr ps k env mem next Q := by
  by_cases hp : a ≥ b
  · exact RD.geqT h hx hy hp (hT hp)
  · exact RD.geqF h hx hy hp (hF hp)
theorem RD.eql {x y : AOpd} {kk : IntKind} {a b : Int} (h : ops = ⟨some d, .bin .eql x y, none⟩ :: rest) (hx : x.lk env = some (.i kk a)) (hy : y.lk env = some (.i kk b)) (hT : a = b → RD Y fn rest (i + 1) (tr ++ [(touchOf (look mem) ((.bin .eql x y : AOp AOpd).map (AOpd.get (E env))), (([] : Ups).map (·.1)))]) ps k ((d, .b true) :: env) mem next Q) (hF : ¬ (a = b) → RD Y fn rest (i + 1) (tr ++ [(touchOf (look mem) ((.bin .eql x y : AOp AOpd).map (AOpd.get (E env))), (([] : Ups).map (·.1)))]) ps k ((d, .b false) :: env) mem next Q) : RD Y fn ops i tr ps k env mem next Q := by
  by_cases hp : a = b
  · exact RD.eqlT h hx hy hp (hT hp)
  · exact RD.eqlF h hx hy hp (hF hp)
theorem RD.neq {x y : AOpd} {kk : IntKind} {a b : Int} (h : ops = ⟨some d, .bin .neq x y, none⟩ :: rest) (hx : x.lk env = some (.i kk a)) (hy : y.lk env = some (.i kk b)) (hT : a ≠ b → RD Y fn rest (i + 1) (tr ++ [(touchOf (look mem) ((.bin .neq x y : AOp AOpd).map (AOpd.get (E env))), (([] : Ups).map (·.1)))]) ps k ((d, .b true) :: env) mem next Q) (hF : ¬ (a ≠ b) → RD Y fn rest (i + 1) (tr ++ [(touchOf (look mem) ((.bin .neq x y : AOp AOpd).map (AOpd.get (E env))), (([] : Ups).map (·.1)))]) ps k ((d, .b false) :: env) mem next Q) : RD Y fn ops i tr ps k env mem next Q := by
  by_cases hp : a ≠ b
  · exact RD.neqT h hx hy hp (hT hp)
  · exact RD.neqF h hx hy hp (hF hp)
theorem RD.s {x y : AOpd} {a b : ByteArray} (h : ops = ⟨some d, .bin .eql x y, none⟩ :: rest) (hx : x.lk env = some (.s a)) (hy : y.lk env = some (.s b)) (hT : a = b → RD Y fn rest (i + 1) (tr ++ [(touchOf (look mem) ((.bin .eql x y : AOp AOpd).map (AOpd.get (E env))), (([] : Ups).map (·.1)))]) ps k ((d, .b true) :: env) mem next Q) (hF : ¬ (a = b) → RD Y fn rest (i + 1) (tr ++ [(touchOf (look mem) ((.bin .eql x y : AOp AOpd).map (AOpd.get (E env))), (([] : Ups).map (·.1)))]) ps k ((d, .b false) :: env) mem next Q) : RD Y fn ops i tr ps k env mem next Q := by
  by_cases hp : a = b
  · exact RD.sT h hx hy hp (hT hp)
  · exact RD.sF h hx hy hp (hF hp)
theorem RD.sn {x y : AOpd} {a b : ByteArray} (h : ops = ⟨some d, .bin .neq x y, none⟩ :: rest) (hx : x.lk env = some (.s a)) (hy : y.lk env = some (.s b)) (hT : a ≠ b → RD Y fn rest (i + 1) (tr ++ [(touchOf (look mem) ((.bin .neq x y : AOp AOpd).map (AOpd.get (E env))), (([] : Ups).map (·.1)))]) ps k ((d, .b true) :: env) mem next Q) (hF : ¬ (a ≠ b) → RD Y fn rest (i + 1) (tr ++ [(touchOf (look mem) ((.bin .neq x y : AOp AOpd).map (AOpd.get (E env))), (([] : Ups).map (·.1)))]) ps k ((d, .b false) :: env) mem next Q) : RD Y fn ops i tr ps k env mem next Q := by
  by_cases hp : a ≠ b
  · exact RD.snT h hx hy hp (hT hp)
  · exact RD.snF h hx hy (Classical.not_not.1 hp) (hF hp)
theorem RD.andL {x y : AOpd} {a : Int} {n : Nat} (h : ops = ⟨some d, .bin .and x y, none⟩ :: rest) (hx : x.lk env = some (.i .i64 a)) (hy : y.lk env = some (.i .i64 (n : Int))) (hn : n < 9223372036854775808) (h' : ∀ z : Int, 0 ≤ z → z ≤ n → RD Y fn rest (i + 1) (tr ++ [(touchOf (look mem) ((.bin .and x y : AOp AOpd).map (AOpd.get (E env))), (([] : Ups).map (·.1)))]) ps k ((d, .i .i64 z) :: env) mem next Q) : RD Y fn ops i tr ps k env mem next Q := by
  refine RD.p h (v := .i .i64 (IntKind.i64.wrap ((BitVec.ofInt 64 a &&& BitVec.ofInt 64 n).toNat : Int))) ?_ (h' _ (and_lo a n hn).1 (and_lo a n hn).2)
  simp only [AOp.map, act, AOpd.lk_get hx, AOpd.lk_get hy, binOf, binI, if_true, Option.bind_some]; rfl
theorem RD.any {kk : IntKind} {n : Int} (h : ops = ⟨some d, op, none⟩ :: rest) (ha : act (next + 16 * i) (look mem) (op.map (AOpd.get (E env))) = some (.i kk n, [])) (h' : ∀ z : Int, RD Y fn rest (i + 1) (tr ++ [(touchOf (look mem) (op.map (AOpd.get (E env))), (([] : Ups).map (·.1)))]) ps k ((d, .i kk z) :: env) mem next Q) : RD Y fn ops i tr ps k env mem next Q := RD.p h ha (h' n)
theorem RD.bB {c : Bool} (hT : c = true → RD Y fn ops i tr ps k ((d, .b true) :: env) mem next Q) (hF : c = false → RD Y fn ops i tr ps k ((d, .b false) :: env) mem next Q) : RD Y fn ops i tr ps k ((d, .b c) :: env) mem next Q := by cases c; exact hF rfl; exact hT rfl
end
end Go.Eng
