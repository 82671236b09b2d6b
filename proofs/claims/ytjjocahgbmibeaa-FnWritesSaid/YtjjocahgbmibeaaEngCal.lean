/- The calculus: what the machine's steps say, one law for each kind of step. Q is what is asked of the result. -/
import Derived.Test.YtjjocahgbmibeaaEngZ
namespace Go.Eng
set_option linter.unusedVariables false

structure EngSys where
  Γ : Nat → Option AFn
  md : Nat → List Bool
  X : Nat → List AV → AV → List AV → Prop
abbrev Env' := List (Nat × AV)
abbrev Mem' := List (Nat × AObj)
abbrev Qst := AV → List AV → Prop
def E (env : Env') (t : Nat) : AV := (look env t).getD .junk
/-- A call, and to what it comes. -/
def RF (Y : EngSys) (f : Nat) (as : List AV) (r : AV) (outs : List AV) : Prop := Runs Y.Γ Y.md Y.X (.fn f as) r outs
def RFx (Y : EngSys) (f : Nat) (as : List AV) (Q : Qst) : Prop := ∃ r outs, Q r outs ∧ RF Y f as r outs
/-- A place in a function. -/
def RA (Y : EngSys) (fn : AFn) (todo : List AItem) (env : Env') (mem : Mem') (next : Nat) (Q : Qst) : Prop := ∃ r outs, Q r outs ∧ Runs Y.Γ Y.md Y.X (.at fn todo ⟨env, mem, next⟩) r outs
/-- A place in a region: in text order; drawn. -/
def RO (Y : EngSys) (fn : AFn) (ops : List AOper) (i : Nat) (k : List AItem) (env : Env') (mem : Mem') (next : Nat) (Q : Qst) : Prop := ∃ r outs, Q r outs ∧ ∀ tr, Runs Y.Γ Y.md Y.X (.at fn (.ops ops i tr false [] :: k) ⟨env, mem, next⟩) r outs
def RD (Y : EngSys) (fn : AFn) (ops : List AOper) (i : Nat) (tr : List (List Nat × List Nat)) (ps : List (Nat × Nat)) (k : List AItem) (env : Env') (mem : Mem') (next : Nat) (Q : Qst) : Prop :=
  ∃ r outs, Q r outs ∧ Runs Y.Γ Y.md Y.X (.at fn (.ops ops i tr true ps :: k) ⟨env, mem, next⟩) r outs
theorem RF.x {Y : EngSys} {f : Nat} {as : List AV} {r : AV} {outs : List AV} (h : RFx Y f as fun r' o' => r' = r ∧ o' = outs) : RF Y f as r outs := by
  obtain ⟨r', o', ⟨rfl, rfl⟩, h⟩ := h; exact h
theorem RF.ext {Y : EngSys} {f : Nat} {as : List AV} {r : AV} {outs : List AV} (h : Y.X f as r outs) : RF Y f as r outs := Runs.ext h
theorem RF.sub {Y : EngSys} {f : Nat} {as as' : List AV} {r : AV} {outs : List AV} (h : RF Y f as' r outs) (hs : LeBs as as') : RF Y f as r outs := Runs.sub hs h
theorem RF.sup {Y : EngSys} {f : Nat} {as : List AV} {r r' : AV} {outs outs' : List AV} (h : RF Y f as r outs) (hr : LeB r r') (ho : LeBs outs outs') : RF Y f as r' outs' := Runs.sup hr ho h
theorem RFx.imp {Y : EngSys} {f : Nat} {as : List AV} {Q Q' : Qst} (h : RFx Y f as Q) (hq : ∀ r outs, Q r outs → Q' r outs) : RFx Y f as Q' := let ⟨r, o, h1, h2⟩ := h; ⟨r, o, hq r o h1, h2⟩

section
variable {Y : EngSys} {fn : AFn} {k k' todo todo' : List AItem} {env env' : Env'} {mem mem' : Mem'} {next next' i : Nat} {Q : Qst} {ops rest : List AOper} {tr : List (List Nat × List Nat)} {ps : List (Nat × Nat)} {d : Nat} {op : AOp AOpd} {v : AV}
theorem RA.map (f : ∀ r outs, Runs Y.Γ Y.md Y.X (.at fn todo ⟨env, mem, next⟩) r outs → Runs Y.Γ Y.md Y.X (.at fn todo' ⟨env', mem', next'⟩) r outs) (h : RA Y fn todo env mem next Q) : RA Y fn todo' env' mem' next' Q :=
  let ⟨r, o, h1, h2⟩ := h; ⟨r, o, h1, f r o h2⟩
theorem RA.s (hs : step1 todo ⟨env, mem, next⟩ = some (todo', ⟨env', mem', next'⟩)) (h : RA Y fn todo' env' mem' next' Q) : RA Y fn todo env mem next Q := .map (fun r o => Runs.step hs) h
theorem RA.imp {Q' : Qst} (h : RA Y fn todo env mem next Q) (hq : ∀ r outs, Q r outs → Q' r outs) : RA Y fn todo env mem next Q' := let ⟨r, o, h1, h2⟩ := h; ⟨r, o, hq r o h1, h2⟩

/-! Control. -/
theorem RFx.go {f : Nat} {as : List AV} (h : Y.Γ f = some fn) (hm : Y.md f = fn.modes) (hl : fn.modes.length = as.length)
    (h' : RA Y fn [.code fn.code] ((List.range (impVals 0 as).1.length).zip (impVals 0 as).1) (impVals 0 as).2.1.reverse (impVals 0 as).2.2 Q) : RFx Y f as Q := let ⟨r, o, h1, h2⟩ := h'; ⟨r, o, h1, Runs.fn h hm hl h2⟩
theorem RA.seq {x y : ACode} (h : RA Y fn (.code x :: .code y :: k) env mem next Q) : RA Y fn (.code (.seq x y) :: k) env mem next Q := .s rfl h
theorem RA.skip (h : RA Y fn k env mem next Q) : RA Y fn (.code .skip :: k) env mem next Q := .s rfl h
theorem RA.block {id : Nat} {x : ACode} (h : RA Y fn (.code x :: .inBlock id :: k) env mem next Q) : RA Y fn (.code (.block id x) :: k) env mem next Q := .s rfl h
theorem RA.inBlock {id : Nat} (h : RA Y fn k env mem next Q) : RA Y fn (.inBlock id :: k) env mem next Q := .s rfl h
theorem RA.loop {lv : List Nat} {x : ACode} (h : RA Y fn (.code x :: .inLoop lv x :: k) env mem next Q) : RA Y fn (.code (.loop lv x) :: k) env mem next Q := .s rfl h
theorem RA.inLoop {lv : List Nat} {x : ACode} (h : RA Y fn (.code x :: .inLoop lv x :: k) env mem next Q) : RA Y fn (.inLoop lv x :: k) env mem next Q := .s rfl h
/-- A loop's head under a name: so it's where it comes back to. -/
theorem RA.loopI {lv : List Nat} {x : ACode} (h : ∀ T, (∀ {env : Env'} {mem : Mem'} {next : Nat} {Q : Qst}, RA Y fn T env mem next Q → RA Y fn (.inLoop lv x :: k) env mem next Q) → noOps T = true → T = .code x :: .inLoop lv x :: k → RA Y fn T env mem next Q) : RA Y fn (.code (.loop lv x) :: k) env mem next Q :=
  .loop (h _ (fun h => .inLoop h) rfl rfl)
theorem RA.exit {id : Nat} (he : exitA id k = some k') (h : RA Y fn k' env mem next Q) : RA Y fn (.code (.exit id) :: k) env mem next Q := .s (by simp [step1, he]) h
theorem RA.reg (h : RO Y fn ops 0 k env mem next Q) : RA Y fn (.code (.reg ops false []) :: k) env mem next Q := let ⟨r, o, h1, h2⟩ := h; ⟨r, o, h1, Runs.step rfl (h2 _)⟩
theorem RA.regD (h : RD Y fn ops 0 [] ps k env mem next Q) : RA Y fn (.code (.reg ops true ps) :: k) env mem next Q := let ⟨r, o, h1, h2⟩ := h; ⟨r, o, h1, Runs.step rfl h2⟩
theorem RA.condT {c : AOpd} {x y : ACode} (hc : c.get (E env) = .b true) (h : RA Y fn (.code x :: k) env mem next Q) : RA Y fn (.code (.cond c x y) :: k) env mem next Q :=
  .s (by have : c.get (St.e ⟨env, mem, next⟩) = .b true := hc; simp [step1, this]) h
theorem RA.condF {c : AOpd} {x y : ACode} (hc : c.get (E env) = .b false) (h : RA Y fn (.code y :: k) env mem next Q) : RA Y fn (.code (.cond c x y) :: k) env mem next Q :=
  .s (by have : c.get (St.e ⟨env, mem, next⟩) = .b false := hc; simp [step1, this]) h
theorem RA.condB {c : AOpd} {x y : ACode} {t : Bool} (hc : c.get (E env) = .b t) (hT : t = true → RA Y fn (.code x :: k) env mem next Q) (hF : t = false → RA Y fn (.code y :: k) env mem next Q) : RA Y fn (.code (.cond c x y) :: k) env mem next Q := by
  cases t
  · exact .condF hc (hF rfl)
  · exact .condT hc (hT rfl)
theorem RA.cond {c : AOpd} {x y : ACode} {p : Prop} [Decidable p] (hc : c.get (E env) = .b (decide p)) (hT : p → RA Y fn (.code x :: k) env mem next Q) (hF : ¬ p → RA Y fn (.code y :: k) env mem next Q) : RA Y fn (.code (.cond c x y) :: k) env mem next Q :=
  .condB hc (fun h => hT (of_decide_eq_true h)) (fun h => hF (of_decide_eq_false h))
theorem RA.both {c : AOpd} {x y : ACode} {r : AV} {outs : List AV} (hc : c.get (E env) = .anyb) (hq : Q r outs) (hT : RA Y fn (.code x :: k) env mem next fun r' o' => r' = r ∧ o' = outs) (hF : RA Y fn (.code y :: k) env mem next fun r' o' => r' = r ∧ o' = outs) : RA Y fn (.code (.cond c x y) :: k) env mem next Q := by
  obtain ⟨_, _, ⟨rfl, rfl⟩, h1⟩ := hT
  obtain ⟨_, _, ⟨e1, e2⟩, h2⟩ := hF
  subst e1; subst e2
  exact ⟨_, _, hq, Runs.both hc h1 h2⟩
theorem RA.ret {r0 r : AV} {outs0 outs : List AV} (h : leave fn ⟨env, mem, next⟩ = some (r0, outs0)) (hq : Q r outs) (hr : LeB r0 r) (ho : LeBs outs0 outs) : RA Y fn (.code .ret :: k) env mem next Q := ⟨r, outs, hq, Runs.ret h hr ho⟩
theorem RA.done {r0 r : AV} {outs0 outs : List AV} (h : leave fn ⟨env, mem, next⟩ = some (r0, outs0)) (hq : Q r outs) (hr : LeB r0 r) (ho : LeBs outs0 outs) : RA Y fn [] env mem next Q := ⟨r, outs, hq, Runs.done h hr ho⟩
theorem RA.weak (q : List Nat) (h : RA Y fn todo env' mem' next' Q) (hn : noOps todo = true) (he : LeE q (E env) env') (hm : LeM q (look mem) mem') (hd : q.Nodup) (hl : q.length ≤ next') : RA Y fn todo env mem next Q :=
  .map (fun r o => Runs.weak (r := q) (S' := ⟨env', mem', next'⟩) hn ⟨hd, hl, he, hm⟩) h
theorem RA.fresh {t es : Nat} (hn : noOps todo = true) (ht : E env t = .emp) (h : RA Y fn todo ((t, .row next) :: env) ((next, .row true es 0 []) :: mem) (next + 1) Q) : RA Y fn todo env mem next Q :=
  .map (fun r o => Runs.fresh (Slot.env t) es hn (by have : St.e ⟨env, mem, next⟩ t = .emp := ht; simp only [freshen, this])) h
theorem RA.freshB {id c es : Nat} {cs : List AV} (hn : noOps todo = true) (ht : look mem id = some (.box cs)) (hc : cs[c]? = some .emp) (h : RA Y fn todo env ((id, .box (cs.set c (.row next))) :: (next, .row true es 0 []) :: mem) (next + 1) Q) : RA Y fn todo env mem next Q :=
  .map (fun r o => Runs.fresh (Slot.box id c) es hn (by have : St.m ⟨env, mem, next⟩ id = some (.box cs) := ht; simp only [freshen, this, hc])) h

/-! Regions. -/
theorem step_op {o : AOper} {dr : Bool} {S : St} {u : Ups} (hw : o.want S.e = some true) (ha : act (S.next + 16 * i) S.m (o.op.map (AOpd.get S.e)) = some (v, u)) :
    step1 (.ops (o :: rest) i tr dr ps :: k) S = some (.ops rest (i + 1) (tr ++ [(touchOf S.m (o.op.map (AOpd.get S.e)), u.map (·.1))]) dr ps :: k, (S.ups u).put o.dst v) := by
  simp only [step1, hw, Option.bind_some, if_true, ha]
theorem step_no {o : AOper} {dr : Bool} {S : St} (hw : o.want S.e = some false) :
    step1 (.ops (o :: rest) i tr dr ps :: k) S = some (.ops rest (i + 1) (tr ++ [([], [])]) dr ps :: k, S.put o.dst (.tup [])) := by
  simp [step1, hw]
theorem want_n {t : Nat} {b c : Bool} (hg : E env t = .b c) (hb : c = !b) : AOper.want ⟨some d, op, some (t, b)⟩ (St.e ⟨env, mem, next⟩) = some false := by
  subst hb
  have : St.e ⟨env, mem, next⟩ t = .b (!b) := hg
  cases b <;> simp [AOper.want, this]
theorem want_t {t : Nat} {b : Bool} (hg : E env t = .tup []) : AOper.want ⟨some d, op, some (t, b)⟩ (St.e ⟨env, mem, next⟩) = some false := by
  have : St.e ⟨env, mem, next⟩ t = .tup [] := hg
  simp [AOper.want, this]
theorem RO.nil (h : RA Y fn k env mem (next + 16 * i) Q) : RO Y fn [] i k env mem next Q := let ⟨r, o, h1, h2⟩ := h; ⟨r, o, h1, fun tr => Runs.step (by simp [step1]) h2⟩
theorem RD.nil (hp : okPairs tr ps = true) (h : RA Y fn k env mem (next + 16 * i) Q) : RD Y fn [] i tr ps k env mem next Q := let ⟨r, o, h1, h2⟩ := h; ⟨r, o, h1, Runs.step (by simp [step1, hp]) h2⟩
theorem RO.u (h : ops = ⟨some d, op, none⟩ :: rest) {u : Ups} (ha : act (next + 16 * i) (look mem) (op.map (AOpd.get (E env))) = some (v, u)) (h' : RO Y fn rest (i + 1) k ((d, v) :: env) (u.reverse ++ mem) next Q) : RO Y fn ops i k env mem next Q := by
  subst h
  obtain ⟨r, o, h1, h2⟩ := h'
  exact ⟨r, o, h1, fun tr => Runs.step (step_op (S := ⟨env, mem, next⟩) rfl ha) (h2 _)⟩
theorem RO.n (h : ops = ⟨none, op, none⟩ :: rest) {u : Ups} (ha : act (next + 16 * i) (look mem) (op.map (AOpd.get (E env))) = some (v, u)) (h' : RO Y fn rest (i + 1) k env (u.reverse ++ mem) next Q) : RO Y fn ops i k env mem next Q := by
  subst h
  obtain ⟨r, o, h1, h2⟩ := h'
  exact ⟨r, o, h1, fun tr => Runs.step (step_op (S := ⟨env, mem, next⟩) rfl ha) (h2 _)⟩
theorem RO.p (h : ops = ⟨some d, op, none⟩ :: rest) (ha : act (next + 16 * i) (look mem) (op.map (AOpd.get (E env))) = some (v, [])) (h' : RO Y fn rest (i + 1) k ((d, v) :: env) mem next Q) : RO Y fn ops i k env mem next Q := RO.u h ha h'
theorem RO.u1 (h : ops = ⟨some d, op, none⟩ :: rest) {p : Nat × AObj} (ha : act (next + 16 * i) (look mem) (op.map (AOpd.get (E env))) = some (v, [p])) (h' : RO Y fn rest (i + 1) k ((d, v) :: env) (p :: mem) next Q) : RO Y fn ops i k env mem next Q := RO.u h ha h'
theorem RO.n1 (h : ops = ⟨none, op, none⟩ :: rest) {p : Nat × AObj} (ha : act (next + 16 * i) (look mem) (op.map (AOpd.get (E env))) = some (v, [p])) (h' : RO Y fn rest (i + 1) k env (p :: mem) next Q) : RO Y fn ops i k env mem next Q := RO.n h ha h'
theorem RO.gn {t : Nat} {b c : Bool} (h : ops = ⟨some d, op, some (t, b)⟩ :: rest) (hg : E env t = .b c) (hb : c = !b) (h' : RO Y fn rest (i + 1) k ((d, .tup []) :: env) mem next Q) : RO Y fn ops i k env mem next Q := by
  subst h
  obtain ⟨r, o, h1, h2⟩ := h'
  exact ⟨r, o, h1, fun tr => Runs.step (step_no (S := ⟨env, mem, next⟩) (want_n hg hb)) (h2 _)⟩
theorem RO.gt {t : Nat} {b : Bool} (h : ops = ⟨some d, op, some (t, b)⟩ :: rest) (hg : E env t = .tup []) (h' : RO Y fn rest (i + 1) k ((d, .tup []) :: env) mem next Q) : RO Y fn ops i k env mem next Q := by
  subst h
  obtain ⟨r, o, h1, h2⟩ := h'
  exact ⟨r, o, h1, fun tr => Runs.step (step_no (S := ⟨env, mem, next⟩) (want_t hg)) (h2 _)⟩
theorem RO.call {cf : AOpd} {as : List AOpd} {f : Nat} {caps pargs outs' : List AV} {dd u : Ups} {sn : List Nat} {r' : AV} (h : ops = ⟨some d, .call cf as, none⟩ :: rest) (hc : cf.get (E env) = .clo f caps)
    (hp : prep (look mem) (Y.md f) (as.map (AOpd.get (E env)) ++ caps) = some (pargs, dd, sn)) (hr : RF Y f pargs r' outs')
    (hf : fin (next + 16 * i) (look mem) (Y.md f) (as.map (AOpd.get (E env)) ++ caps) dd sn r' outs' = some (v, u))
    (h' : RO Y fn rest (i + 1) k ((d, v) :: env) (u.reverse ++ mem) next Q) : RO Y fn ops i k env mem next Q := by
  subst h
  obtain ⟨r, o, h1, h2⟩ := h'
  exact ⟨r, o, h1, fun tr => Runs.call (S := ⟨env, mem, next⟩) (p := (v, u)) rfl rfl hc hp hr hf (h2 _)⟩
theorem RD.u (h : ops = ⟨some d, op, none⟩ :: rest) {u : Ups} (ha : act (next + 16 * i) (look mem) (op.map (AOpd.get (E env))) = some (v, u)) (h' : RD Y fn rest (i + 1) (tr ++ [(touchOf (look mem) (op.map (AOpd.get (E env))), u.map (·.1))]) ps k ((d, v) :: env) (u.reverse ++ mem) next Q) : RD Y fn ops i tr ps k env mem next Q := by
  subst h
  obtain ⟨r, o, h1, h2⟩ := h'
  exact ⟨r, o, h1, Runs.step (step_op (S := ⟨env, mem, next⟩) rfl ha) h2⟩
theorem RD.n (h : ops = ⟨none, op, none⟩ :: rest) {u : Ups} (ha : act (next + 16 * i) (look mem) (op.map (AOpd.get (E env))) = some (v, u)) (h' : RD Y fn rest (i + 1) (tr ++ [(touchOf (look mem) (op.map (AOpd.get (E env))), u.map (·.1))]) ps k env (u.reverse ++ mem) next Q) : RD Y fn ops i tr ps k env mem next Q := by
  subst h
  obtain ⟨r, o, h1, h2⟩ := h'
  exact ⟨r, o, h1, Runs.step (step_op (S := ⟨env, mem, next⟩) rfl ha) h2⟩
theorem RD.p (h : ops = ⟨some d, op, none⟩ :: rest) (ha : act (next + 16 * i) (look mem) (op.map (AOpd.get (E env))) = some (v, [])) (h' : RD Y fn rest (i + 1) (tr ++ [(touchOf (look mem) (op.map (AOpd.get (E env))), ([] : Ups).map (·.1))]) ps k ((d, v) :: env) mem next Q) : RD Y fn ops i tr ps k env mem next Q := RD.u h ha h'
theorem RD.u1 (h : ops = ⟨some d, op, none⟩ :: rest) {p : Nat × AObj} (ha : act (next + 16 * i) (look mem) (op.map (AOpd.get (E env))) = some (v, [p])) (h' : RD Y fn rest (i + 1) (tr ++ [(touchOf (look mem) (op.map (AOpd.get (E env))), [p].map (·.1))]) ps k ((d, v) :: env) (p :: mem) next Q) : RD Y fn ops i tr ps k env mem next Q := RD.u h ha h'
theorem RD.n1 (h : ops = ⟨none, op, none⟩ :: rest) {p : Nat × AObj} (ha : act (next + 16 * i) (look mem) (op.map (AOpd.get (E env))) = some (v, [p])) (h' : RD Y fn rest (i + 1) (tr ++ [(touchOf (look mem) (op.map (AOpd.get (E env))), [p].map (·.1))]) ps k env (p :: mem) next Q) : RD Y fn ops i tr ps k env mem next Q := RD.n h ha h'
theorem RD.gn {t : Nat} {b c : Bool} (h : ops = ⟨some d, op, some (t, b)⟩ :: rest) (hg : E env t = .b c) (hb : c = !b) (h' : RD Y fn rest (i + 1) (tr ++ [([], [])]) ps k ((d, .tup []) :: env) mem next Q) : RD Y fn ops i tr ps k env mem next Q := by
  subst h
  obtain ⟨r, o, h1, h2⟩ := h'
  exact ⟨r, o, h1, Runs.step (step_no (S := ⟨env, mem, next⟩) (want_n hg hb)) h2⟩
theorem RD.gt {t : Nat} {b : Bool} (h : ops = ⟨some d, op, some (t, b)⟩ :: rest) (hg : E env t = .tup []) (h' : RD Y fn rest (i + 1) (tr ++ [([], [])]) ps k ((d, .tup []) :: env) mem next Q) : RD Y fn ops i tr ps k env mem next Q := by
  subst h
  obtain ⟨r, o, h1, h2⟩ := h'
  exact ⟨r, o, h1, Runs.step (step_no (S := ⟨env, mem, next⟩) (want_t hg)) h2⟩
theorem RD.call {cf : AOpd} {as : List AOpd} {f : Nat} {caps pargs outs' : List AV} {dd u : Ups} {sn : List Nat} {r' : AV} (h : ops = ⟨some d, .call cf as, none⟩ :: rest) (hc : cf.get (E env) = .clo f caps)
    (hp : prep (look mem) (Y.md f) (as.map (AOpd.get (E env)) ++ caps) = some (pargs, dd, sn)) (hr : RF Y f pargs r' outs')
    (hf : fin (next + 16 * i) (look mem) (Y.md f) (as.map (AOpd.get (E env)) ++ caps) dd sn r' outs' = some (v, u))
    (h' : RD Y fn rest (i + 1) (tr ++ [(touchOf (look mem) ((AOp.call cf as).map (AOpd.get (E env))), u.map (·.1))]) ps k ((d, v) :: env) (u.reverse ++ mem) next Q) : RD Y fn ops i tr ps k env mem next Q := by
  subst h
  obtain ⟨r, o, h1, h2⟩ := h'
  exact ⟨r, o, h1, Runs.call (S := ⟨env, mem, next⟩) (p := (v, u)) rfl rfl hc hp hr hf h2⟩
end
end Go.Eng
