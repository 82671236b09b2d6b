/- The abstract machine: calls' borders, steps, runs; and how loaded code is read as its code. Definitions only. -/
import Derived.Test.YtjjocahgbmibeaaEngA
namespace Go.Eng

/-- The objects that a cell, a value names. -/
def AV.ids0 : AV → List Nat
  | .row id | .view id _ _ | .past id | .elt id _ _ => [id]
  | _ => []
def AV.ids1 : AV → List Nat
  | .agg cs | .clo _ cs => cs.flatMap AV.ids0
  | v => v.ids0
def AV.ids : AV → List Nat
  | .tup cs => cs.flatMap AV.ids1
  | v => v.ids1

def AOp.args : AOp AV → List AV
  | .mv x | .box x | .ld _ _ x | .nc x | .un _ x | .cvI _ x | .cvS x | .cvB x | .fa _ x | .fd _ _ _ x | .ex x _ | .len _ x | .cap x | .clr _ _ x | .eqn _ x => [x]
  | .st _ x y | .bin _ x y | .eqb _ x y | .eqa _ _ x y | .mk _ _ _ x y | .ia _ x y | .ix x y | .ap _ _ x y | .apz _ _ _ x y | .mxi x y | .mni x y => [x, y]
  | .pick c x y => [c, x, y]
  | .build _ ps => ps.map (·.2.2)
  | .rowOf _ _ _ ps => ps.map (·.2)
  | .mf _ cs => cs
  | .sl _ x lo hi mx => x :: (lo.toList ++ hi.toList ++ mx.toList)
  | .call f args => (match f with | .clo _ caps => caps | _ => []) ++ args
  | .new _ | .bad => []

/-- A cell goes out with what it owns; what goes out is dead behind. -/
def expCell (m : Mem) : AV → Option (AV × Ups)
  | .row id => match m id with
    | some (.row fl es mc xs) => some (.own fl es mc xs, [(id, .dead)])
    | some (.frow fl es xs) => some (.fro fl es xs, [])
    | _ => some (.junk, [])
  | .view id lo hi => match m id with
    | some (.row fl es mc xs) => if lo = 0 ∧ hi ≤ xs.length then some (.own fl es mc (xs.take hi), [(id, .dead)]) else none
    | some (.frow fl es xs) => if lo ≤ hi ∧ hi ≤ xs.length then some (.fro fl es ((xs.take hi).drop lo), []) else none
    | _ => some (.junk, [])
  | .junk => some (.junk, [])
  | v => if v.plain then some (v, []) else none
def expCells (m : Mem) : List AV → Option (List AV × Ups)
  | [] => some ([], [])
  | c :: cs => (expCell m c).bind fun p => (expCells (putM m p.2) cs).bind fun q => some (p.1 :: q.1, p.2 ++ q.2)
def expPtr (m : Mem) : AV → Option (AV × Ups)
  | .elt id i j => match m id with
    | some (.box cs) => if i = 0 then (expCells (setM m id .dead) cs).bind fun p => some (.obx p.1 j, (id, .dead) :: p.2) else none
    | _ => none
  | v => expCell m v
def expVal (m : Mem) : AV → Option (AV × Ups)
  | .agg cs => (expCells m cs).bind fun p => some (.agg p.1, p.2)
  | v => expPtr m v
def expVals (m : Mem) : List AV → Option (List AV × Ups)
  | [] => some ([], [])
  | c :: cs => (expVal m c).bind fun p => (expVals (putM m p.2) cs).bind fun q => some (p.1 :: q.1, p.2 ++ q.2)
def expRes (m : Mem) : AV → Option (AV × Ups)
  | .tup cs => (expVals m cs).bind fun p => some (.tup p.1, p.2)
  | v => expVal m v

/-- A value comes in: what it owns are objects from n on. -/
def impCell (n : Nat) : AV → AV × Ups × Nat
  | .own fl es mc xs => (.row n, [(n, .row fl es mc xs)], n + 1)
  | v => (v, [], n)
def impCells (n : Nat) : List AV → List AV × Ups × Nat
  | [] => ([], [], n)
  | c :: cs => let p := impCell n c; let q := impCells p.2.2 cs; (p.1 :: q.1, p.2.1 ++ q.2.1, q.2.2)
def impVal (n : Nat) : AV → AV × Ups × Nat
  | .obx cs j => let q := impCells (n + 1) cs; (.elt n 0 j, q.2.1 ++ [(n, .box q.1)], q.2.2)
  | .agg cs => let q := impCells n cs; (.agg q.1, q.2.1, q.2.2)
  | v => impCell n v
def impVals (n : Nat) : List AV → List AV × Ups × Nat
  | [] => ([], [], n)
  | c :: cs => let p := impVal n c; let q := impVals p.2.2 cs; (p.1 :: q.1, p.2.1 ++ q.2.1, q.2.2)
def impRes (n : Nat) : AV → AV × Ups × Nat
  | .tup cs => let q := impVals n cs; (.tup q.1, q.2.1, q.2.2)
  | v => impVal n v

/-- A value that is only looked at: own rows are told as frozen ones; the rows and boxes that it leads to. -/
def snapCell (m : Mem) : AV → Option (AV × List Nat)
  | .row id => match m id with
    | some (.row fl es _ xs) => some (.fro fl es xs, [id])
    | some (.frow fl es xs) => some (.fro fl es xs, [])
    | _ => none
  | .view id lo hi => match m id with
    | some (.row fl es _ xs) => if lo ≤ hi ∧ hi ≤ xs.length then some (.fro fl es ((xs.take hi).drop lo), [id]) else none
    | some (.frow fl es xs) => if lo ≤ hi ∧ hi ≤ xs.length then some (.fro fl es ((xs.take hi).drop lo), []) else none
    | _ => none
  | v => if v.plain then some (v, []) else none
def snapCells (m : Mem) : List AV → Option (List AV × List Nat)
  | [] => some ([], [])
  | c :: cs => (snapCell m c).bind fun p => (snapCells m cs).bind fun q => some (p.1 :: q.1, p.2 ++ q.2)
def snapPtr (m : Mem) : AV → Option (AV × List Nat)
  | .elt id i j => match m id with
    | some (.box cs) => if i = 0 then (snapCells m cs).bind fun p => some (.fptr p.1 j, id :: p.2) else none
    | _ => none
  | v => snapCell m v
def snapPtrs (m : Mem) : List AV → Option (List AV × List Nat)
  | [] => some ([], [])
  | c :: cs => (snapPtr m c).bind fun p => (snapPtrs m cs).bind fun q => some (p.1 :: q.1, p.2 ++ q.2)
def snapVal (m : Mem) : AV → Option (AV × List Nat)
  | .agg cs => (snapCells m cs).bind fun p => some (.agg p.1, p.2)
  | .clo f cs => (snapPtrs m cs).bind fun p => some (.clo f p.1, p.2)
  | .junk => some (.junk, [])
  | v => snapPtr m v

/-- Arguments: those of mode 'true' are handed over (what they are is dead till the call is back), the others are looked at. -/
def prep (m : Mem) : List Bool → List AV → Option (List AV × Ups × List Nat)
  | _, [] => some ([], [], [])
  | md, a :: as =>
    if md.headD false then (expPtr m a).bind fun p => (prep (putM m p.2) md.tail as).bind fun q => some (p.1 :: q.1, p.2 ++ q.2.1, q.2.2)
    else (snapVal m a).bind fun p => (prep m md.tail as).bind fun q => some (p.1 :: q.1, q.2.1, p.2 ++ q.2.2)

/-- Does a value at a border lead to memory that may be another's? -/
def AV.leads0 : AV → Bool
  | .fro .. | .fptr .. | .clo .. => true
  | .own fl _ _ _ => !fl
  | _ => false
def AV.leads1 : AV → Bool
  | .agg cs | .obx cs _ => cs.any AV.leads0
  | v => v.leads0
def AV.leads : AV → Bool
  | .tup cs => cs.any AV.leads1
  | v => v.leads1

/-- Behind a call: what the arguments of mode 'true' hold now. -/
def backOne (n : Nat) (m : Mem) : AV → AV → Option (Ups × Nat)
  | .elt id 0 0, .obx cs 0 => let q := impCells n cs; some (q.2.1 ++ [(id, .box q.1)], q.2.2)
  | .row id, .own fl es mc xs => match m id with
    | some (.row _ es' _ ys) => if es = es' ∧ xs.length = ys.length then some ([(id, .row fl es mc xs)], n) else none
    | _ => none
  | .emp, _ => some ([], n)
  | _, .junk => some ([], n)
  | _, _ => none
def backs (n : Nat) (m : Mem) : List Bool → List AV → List AV → Option (Ups × Nat)
  | _, [], [] => some ([], n)
  | md, a :: as, os =>
    if md.headD false then match os with
      | o :: os => (backOne n m a o).bind fun p => (backs p.2 m md.tail as os).bind fun q => some (p.1 ++ q.1, q.2)
      | [] => none
    else backs n m md.tail as os
  | _, _, _ => none

def freezeIds (m : Mem) : List Nat → Option Ups
  | [] => some []
  | id :: ids => match m id with
    | some (.row fl es _ xs) => (freezeIds m ids).bind fun u => some ((id, .frow fl es xs) :: u)
    | some (.frow ..) => freezeIds m ids
    | _ => none
def liveIds (m : Mem) (ids : List Nat) : Bool := ids.all fun id => match m id with
  | some (.row ..) | some (.box ..) | some (.frow ..) => true
  | _ => false

/-- What a call turns: m the memory ahead of it, d what was handed over, sn what was looked at. -/
def fin (nid : Nat) (m : Mem) (md : List Bool) (args : List AV) (d : Ups) (sn : List Nat) (r : AV) (outs : List AV) : Option (AV × Ups) :=
  let p := impRes nid r
  (backs p.2.2 m md args outs).bind fun q =>
  (if r.leads || outs.any AV.leads then freezeIds (putM m d) sn else if liveIds (putM m d) sn then some [] else none).bind fun z =>
  if q.2 ≤ nid + 16 then some (p.1, d ++ z ++ p.2.1 ++ q.1) else none

structure St where
  env : List (Nat × AV)
  mem : List (Nat × AObj)
  next : Nat

def look {α : Type} : List (Nat × α) → Nat → Option α
  | [], _ => none
  | (k, v) :: l, n => if k = n then some v else look l n
def St.e (S : St) (t : Nat) : AV := (look S.env t).getD .junk
def St.m (S : St) : Mem := look S.mem
def AOpd.get (e : Nat → AV) : AOpd → AV
  | .t n => e n
  | .c v => v
def St.put (S : St) (dst : Option Nat) (v : AV) : St := match dst with
  | some d => { S with env := (d, v) :: S.env }
  | none => S
def St.ups (S : St) (u : Ups) : St := { S with mem := u.reverse ++ S.mem }

/-- Is the operation wanted? -/
def AOper.want (o : AOper) (e : Nat → AV) : Option Bool := match o.guard with
  | none => some true
  | some (t, b) => match e t with
    | .b c => some (c == b)
    | .tup [] => some false
    | _ => none

/-- What an operation looks at: the objects that it names, and what lies in the boxes that it names. -/
def touch1 (m : Mem) (ids : List Nat) : List Nat := ids ++ ids.flatMap fun id => match m id with
  | some (.box cs) => cs.flatMap AV.ids0
  | _ => []
/-- Does the operation look at objects? -/
def AOp.looks {α : Type} : AOp α → Bool
  | .rowOf .. | .ld .. | .st .. | .cvS _ | .sl .. | .ia .. | .ap .. | .apz .. | .len .. | .clr .. | .call .. => true
  | _ => false
def touchOf (m : Mem) (o : AOp AV) : List Nat := if o.looks then match o with
  | .call .. => touch1 m (o.args.flatMap AV.ids)
  | _ => o.args.flatMap AV.ids
  else []

inductive AItem where
  | code (c : ACode)
  | inBlock (id : Nat)
  | inLoop (live : List Nat) (x : ACode)
  | ops (rest : List AOper) (i : Nat) (tr : List (List Nat × List Nat)) (draw : Bool) (pairs : List (Nat × Nat))

def disj (a b : List Nat) : Bool := a.all fun x => !b.contains x
def okPairs (tr : List (List Nat × List Nat)) (pairs : List (Nat × Nat)) : Bool := pairs.all fun p =>
  match tr[p.1]?, tr[p.2]? with
  | some x, some y => disj x.2 y.1 && disj x.2 y.2 && disj y.2 x.1
  | _, _ => false

def exitA (id : Nat) : List AItem → Option (List AItem)
  | [] => none
  | .inBlock id' :: k => if id' = id then some k else exitA id k
  | _ :: k => exitA id k

/-! What may be told less exactly. -/
/-- Frozen values. -/
inductive LeF : AV → AV → Prop where
  | refl {a} : LeF a a
  | emp {fl es} : LeF .emp (.fro fl es [])
  | fro {fl fl' es} {xs ys : List (List AV)} (hf : fl' = true → fl = true) (hl : xs.length = ys.length) (hr : ∀ (i : Nat) x y, xs[i]? = some x → ys[i]? = some y → x.length = y.length)
      (h : ∀ (i : Nat) x y (j : Nat) u v, xs[i]? = some x → ys[i]? = some y → x[j]? = some u → y[j]? = some v → LeF u v) : LeF (.fro fl es xs) (.fro fl' es ys)
  | fptr {j} {cs ds : List AV} (hl : cs.length = ds.length) (h : ∀ (i : Nat) u v, cs[i]? = some u → ds[i]? = some v → LeF u v) : LeF (.fptr cs j) (.fptr ds j)
/-- Values at borders. -/
inductive LeB : AV → AV → Prop where
  | fz {a b} (h : LeF a b) : LeB a b
  | empO {fl es} : LeB .emp (.own fl es 0 [])
  | own {fl fl' es mc mc'} {xs ys : List (List AV)} (hf : fl' = true → fl = true) (hm : mc' ≤ max mc xs.length) (hl : xs.length = ys.length) (hr : ∀ (i : Nat) x y, xs[i]? = some x → ys[i]? = some y → x.length = y.length)
      (h : ∀ (i : Nat) x y (j : Nat) u v, xs[i]? = some x → ys[i]? = some y → x[j]? = some u → y[j]? = some v → LeF u v) : LeB (.own fl es mc xs) (.own fl' es mc' ys)
  | agg {cs ds : List AV} (hl : cs.length = ds.length) (h : ∀ (i : Nat) u v, cs[i]? = some u → ds[i]? = some v → LeB u v) : LeB (.agg cs) (.agg ds)
  | tup {cs ds : List AV} (hl : cs.length = ds.length) (h : ∀ (i : Nat) u v, cs[i]? = some u → ds[i]? = some v → LeB u v) : LeB (.tup cs) (.tup ds)
  | obx {j} {cs ds : List AV} (hl : cs.length = ds.length) (h : ∀ (i : Nat) u v, cs[i]? = some u → ds[i]? = some v → LeB u v) : LeB (.obx cs j) (.obx ds j)
  | clo {f} {cs ds : List AV} (hl : cs.length = ds.length) (h : ∀ (i : Nat) u v, cs[i]? = some u → ds[i]? = some v → LeF u v) : LeB (.clo f cs) (.clo f ds)
  | junk {a} : LeB a .junk
def LeBs : List AV → List AV → Prop
  | [], [] => True
  | a :: as, b :: bs => LeB a b ∧ LeBs as bs
  | _, _ => False
/-- Values of a frame; object k is what was r[k]. -/
inductive LeL (r : List Nat) : AV → AV → Prop where
  | fz {a b} (h : LeF a b) (hp : a.plain = true) : LeL r a b
  | row {id k : Nat} (h : r[k]? = some id) : LeL r (.row id) (.row k)
  | view {id k lo hi : Nat} (h : r[k]? = some id) : LeL r (.view id lo hi) (.view k lo hi)
  | past {id k : Nat} (h : r[k]? = some id) : LeL r (.past id) (.past k)
  | elt {id k i j : Nat} (h : r[k]? = some id) : LeL r (.elt id i j) (.elt k i j)
  | agg {cs ds : List AV} (hl : cs.length = ds.length) (h : ∀ (i : Nat) u v, cs[i]? = some u → ds[i]? = some v → LeL r u v) : LeL r (.agg cs) (.agg ds)
  | tup {cs ds : List AV} (hl : cs.length = ds.length) (h : ∀ (i : Nat) u v, cs[i]? = some u → ds[i]? = some v → LeL r u v) : LeL r (.tup cs) (.tup ds)
  | clo {f} {cs ds : List AV} (hl : cs.length = ds.length) (h : ∀ (i : Nat) u v, cs[i]? = some u → ds[i]? = some v → LeL r u v) : LeL r (.clo f cs) (.clo f ds)
  | junk {a} : LeL r a .junk
/-- Objects. -/
inductive LeO (r : List Nat) : AObj → AObj → Prop where
  | dead {o} : LeO r o .dead
  | box {cs ds : List AV} (hl : cs.length = ds.length) (h : ∀ (i : Nat) u v, cs[i]? = some u → ds[i]? = some v → LeL r u v) : LeO r (.box cs) (.box ds)
  | row {fl fl' es mc mc'} {xs ys : List (List AV)} (hm : mc' ≤ mc) (h : LeF (.fro fl es xs) (.fro fl' es ys)) : LeO r (.row fl es mc xs) (.row fl' es mc' ys)
  | frow {fl fl' es} {xs ys : List (List AV)} (h : LeF (.fro fl es xs) (.fro fl' es ys)) : LeO r (.frow fl es xs) (.frow fl' es ys)
def LeE (r : List Nat) (e : Nat → AV) : List (Nat × AV) → Prop
  | [] => True
  | p :: l => LeL r (e p.1) p.2 ∧ LeE r e l
def LeM (r : List Nat) (m : Mem) : List (Nat × AObj) → Prop
  | [] => True
  | p :: l => (∃ id o, r[p.1]? = some id ∧ m id = some o ∧ LeO r o p.2) ∧ LeM r m l
/-- The state S told as S': other names, less of it. -/
structure Weak (r : List Nat) (S S' : St) : Prop where
  nodup : r.Nodup
  next : r.length ≤ S'.next
  env : LeE r S.e S'.env
  mem : LeM r S.m S'.mem
/-- Where a slice without room stands. -/
inductive Slot where
  | env (t : Nat)
  | cell (t c : Nat)
  | box (id c : Nat)
/-- A slice without room, told as an own row without elements. -/
def freshen (sl : Slot) (es : Nat) (S : St) : Option St := match sl with
  | .env t => match S.e t with
    | .emp => some ⟨(t, .row S.next) :: S.env, (S.next, .row true es 0 []) :: S.mem, S.next + 1⟩
    | _ => none
  | .cell t c => match S.e t with
    | .agg cs => match cs[c]? with
      | some .emp => some ⟨(t, .agg (cs.set c (.row S.next))) :: S.env, (S.next, .row true es 0 []) :: S.mem, S.next + 1⟩
      | _ => none
    | _ => none
  | .box id c => match S.m id with
    | some (.box cs) => match cs[c]? with
      | some .emp => some ⟨S.env, (id, .box (cs.set c (.row S.next))) :: (S.next, .row true es 0 []) :: S.mem, S.next + 1⟩
      | _ => none
    | _ => none
def noOps : List AItem → Bool
  | .ops .. :: _ => false
  | _ => true

/-- One step, but for calls and ends. -/
def step1 : List AItem → St → Option (List AItem × St)
  | .code .skip :: k, S => some (k, S)
  | .code (.reg ops dr ps) :: k, S => some (.ops ops 0 [] dr ps :: k, S)
  | .code (.seq x y) :: k, S => some (.code x :: .code y :: k, S)
  | .code (.cond c x y) :: k, S => match c.get S.e with
    | .b t => some ((if t then .code x else .code y) :: k, S)
    | _ => none
  | .code (.block id x) :: k, S => some (.code x :: .inBlock id :: k, S)
  | .code (.loop lv x) :: k, S => some (.code x :: .inLoop lv x :: k, S)
  | .inLoop lv x :: k, S => some (.code x :: .inLoop lv x :: k, S)
  | .inBlock _ :: k, S => some (k, S)
  | .code (.exit id) :: k, S => (exitA id k).bind fun k' => some (k', S)
  | .ops [] i tr dr ps :: k, S => if dr = false ∨ okPairs tr ps = true then some (k, { S with next := S.next + 16 * i }) else none
  | .ops (o :: rest) i tr dr ps :: k, S => (o.want S.e).bind fun w =>
    if w then (act (S.next + 16 * i) S.m (o.op.map (AOpd.get S.e))).bind fun p =>
      some (.ops rest (i + 1) (tr ++ [(touchOf S.m (o.op.map (AOpd.get S.e)), p.2.map (·.1))]) dr ps :: k, (S.ups p.2).put o.dst p.1)
    else some (.ops rest (i + 1) (tr ++ [([], [])]) dr ps :: k, S.put o.dst (.tup []))
  | _, _ => none

def stepN : Nat → List AItem → St → Option (List AItem × St)
  | 0, k, S => some (k, S)
  | n + 1, k, S => (step1 k S).bind fun p => stepN n p.1 p.2

def resOne (S : St) : ARes → Option AV
  | .t n => some (S.e n)
  | .cell n sz ag => (ptrCells S.m (S.e n)).bind fun p => if p.2 + sz ≤ p.1.length then one ag ((p.1.drop p.2).take sz) else none
def resAll (S : St) : List ARes → Option (List AV)
  | [] => some []
  | r :: rs => (resOne S r).bind fun v => (resAll S rs).bind fun vs => some (v :: vs)
def resOf (S : St) (rs : List ARes) : Option AV := (resAll S rs).bind fun vs => match vs with
  | [v] => some v
  | vs => some (.tup vs)

/-- The parameters of mode 'true'. -/
def trues : List Bool → Nat → List Nat
  | [], _ => []
  | b :: md, i => if b then i :: trues md (i + 1) else trues md (i + 1)

/-- Those that are never written anew. -/
def AFn.ps (fn : AFn) : List Nat := (trues fn.modes 0).filter fun t => !fn.gone.contains t
def leave (fn : AFn) (S : St) : Option (AV × List AV) :=
  (resOf S fn.res).bind fun r => (expRes S.m r).bind fun p => (expVals (putM S.m p.2) ((trues fn.modes 0).map fun t => if fn.gone.contains t then .junk else S.e t)).bind fun q => some (p.1, q.1)
def enter (args : List AV) : St :=
  let q := impVals 0 args
  { env := (List.range q.1.length).zip q.1, mem := q.2.1.reverse, next := q.2.2 }

inductive Cfg where
  | fn (f : Nat) (args : List AV)
  | at (fn : AFn) (todo : List AItem) (S : St)

/-- Runs: a call, a place in a function, comes to a value, and the parameters of mode 'true' hold so much. -/
inductive Runs (Γ : Nat → Option AFn) (md : Nat → List Bool) (X : Nat → List AV → AV → List AV → Prop) : Cfg → AV → List AV → Prop where
  | ext {f args r outs} (h : X f args r outs) : Runs Γ md X (.fn f args) r outs
  | fn {f fn args r outs} (h : Γ f = some fn) (hm : md f = fn.modes) (hl : fn.modes.length = args.length) (h' : Runs Γ md X (.at fn [.code fn.code] (enter args)) r outs) : Runs Γ md X (.fn f args) r outs
  | step {fn todo S todo' S' r outs} (h : step1 todo S = some (todo', S')) (h' : Runs Γ md X (.at fn todo' S') r outs) : Runs Γ md X (.at fn todo S) r outs
  | call {fn o rest i tr dr ps k S f cf as caps pargs d sn r' outs' p r outs}
      (hw : o.want S.e = some true) (ho : o.op = .call cf as) (hc : cf.get S.e = .clo f caps)
      (hp : prep S.m (md f) (as.map (AOpd.get S.e) ++ caps) = some (pargs, d, sn))
      (hr : Runs Γ md X (.fn f pargs) r' outs')
      (hf : fin (S.next + 16 * i) S.m (md f) (as.map (AOpd.get S.e) ++ caps) d sn r' outs' = some p)
      (h' : Runs Γ md X (.at fn (.ops rest (i + 1) (tr ++ [(touchOf S.m (o.op.map (AOpd.get S.e)), p.2.map (·.1))]) dr ps :: k) ((S.ups p.2).put o.dst p.1)) r outs) :
      Runs Γ md X (.at fn (.ops (o :: rest) i tr dr ps :: k) S) r outs
  | both {fn c x y k S r outs} (hc : c.get S.e = .anyb) (hx : Runs Γ md X (.at fn (.code x :: k) S) r outs) (hy : Runs Γ md X (.at fn (.code y :: k) S) r outs) : Runs Γ md X (.at fn (.code (.cond c x y) :: k) S) r outs
  | ret {fn k S r0 outs0 r outs} (h : leave fn S = some (r0, outs0)) (hr : LeB r0 r) (ho : LeBs outs0 outs) : Runs Γ md X (.at fn (.code .ret :: k) S) r outs
  | done {fn S r0 outs0 r outs} (h : leave fn S = some (r0, outs0)) (hr : LeB r0 r) (ho : LeBs outs0 outs) : Runs Γ md X (.at fn [] S) r outs
  | weak {fn todo S r S' v outs} (hn : noOps todo = true) (h : Weak r S S') (h' : Runs Γ md X (.at fn todo S') v outs) : Runs Γ md X (.at fn todo S) v outs
  | fresh {fn todo S S' r outs} (sl : Slot) (es : Nat) (hn : noOps todo = true) (h : freshen sl es S = some S') (h' : Runs Γ md X (.at fn todo S') r outs) : Runs Γ md X (.at fn todo S) r outs
  | sub {f args args' r outs} (h : LeBs args args') (h' : Runs Γ md X (.fn f args') r outs) : Runs Γ md X (.fn f args) r outs
  | sup {f args r outs r' outs'} (h : LeB r r') (ho : LeBs outs outs') (h' : Runs Γ md X (.fn f args) r outs) : Runs Γ md X (.fn f args) r' outs'

/-! Loaded code read as code of this machine. -/
def opd : Operand → AOpd
  | .tmp t => .t t
  | .const v => .c (ofVal v)
  | .func f => .c (.clo f [])
  | .global _ => .c .junk
def cellsOf (z : Value) : List AV := z.cells.toList.map ofCell
def agOf (P : Program) (t : TypeId) : Option Bool := (P.underlying t).map fun d => match d with
  | .struct _ | .array _ _ => true
  | _ => false
def szOf (P : Program) (t : TypeId) : Option Nat := (P.info? t).map (·.size)
/-- A slice type's elements: size, bytes, zero. -/
def elemOf' (P : Program) (t : TypeId) : Option (TypeId × Nat × Nat × Value) := match P.underlying t with
  | some (.slice e) => (P.info? e).bind fun i => i.zero.bind fun z => if 0 < i.size ∧ 0 < i.bytes ∧ z.cells.size = i.size ∧ z.cells.all Value.oneCell' = true then some (e, i.size, i.bytes, z) else none
  | _ => none
def eqOffs (P : Program) (t : TypeId) : Option (List (Nat × Bool)) := match P.underlying t with
  | some (.struct fs) => fs.toList.mapM fun f => if f.name == "_" then none else match P.underlying f.type with
    | some (.int _) => some (f.offset, false)
    | some .bool => some (f.offset, true)
    | _ => none
  | _ => none
def isNeq : BinOp → Bool
  | .neq => true
  | _ => false
def opOf (P : Program) (o : Oper) : AOp AOpd :=
  match o.op with
  | .move x | .assign x => .mv (opd x)
  | .pick c a b => .pick (opd c) (opd a) (opd b)
  | .alloc t => match (P.info? t).bind (·.zero) with
    | some z => if z.cells.all Value.oneCell' then .new (cellsOf z) else .bad
    | none => .bad
  | .box _ x => .box (opd x)
  | .build t ps => match P.underlying t, (P.info? t).bind (·.zero) with
    | some (.struct fs), some z => match ps.toList.mapM fun p => (fs[p.1]?).bind fun f => (szOf P f.type).map fun n => (f.offset, n, opd p.2) with
      | some qs => if z.cells.all Value.oneCell' = true ∧ (fs.toList.all fun f => (P.info? f.type).isSome) = true then .build (cellsOf z) qs else .bad
      | none => .bad
    | _, _ => .bad
  | .buildSlice t n ps => match elemOf' P t with
    | some (_, es, _, z) => if n = 0 ∧ es = 4 ∧ ps.size = 0 then .mv (.c .emp) else if n * es ≤ 16777216 then .rowOf es (cellsOf z) n (ps.toList.map fun p => (p.1, opd p.2)) else .bad
    | none => .bad
  | .load t x => match szOf P t, agOf P t with
    | some sz, some ag => if ag = true ∨ sz = 1 then .ld sz ag (opd x) else .bad
    | _, _ => .bad
  | .store t x v => match szOf P t with
    | some sz => .st sz (opd x) (opd v)
    | none => .bad
  | .nilCheck x => .nc (opd x)
  | .binOp op t x y _ => match op with
    | .eql | .neq => match P.underlying t with
      | some .bool => .eqb (isNeq op) (opd x) (opd y)
      | some (.struct _) => match eqOffs P t with
        | some os => if P.stoodInHeld t || P.eqGuardType P.depth t then .bad else .eqa (isNeq op) os (opd x) (opd y)
        | none => .bad
      | some (.int _) => .bin op (opd x) (opd y)
      | some .string => .bin op (opd x) (opd y)
      | some (.slice _) => match y with
        | .const (.slice none 0 0) => .eqn (isNeq op) (opd x)
        | _ => .bad
      | _ => .bad
    | _ => .bin op (opd x) (opd y)
  | .unOp op _ x => .un op (opd x)
  | .convert s d x => match P.underlying s, P.underlying d with
    | some (.int _), some (.int k) => .cvI k (opd x)
    | some (.slice e), some .string => match P.underlying e with
      | some (.int .u8) => .cvS (opd x)
      | _ => .bad
    | some .string, some (.slice e) => match P.underlying e with
      | some (.int .u8) => .cvB (opd x)
      | _ => .bad
    | _, _ => .bad
  | .makeFunc (.func f) first caps => if first.size = 0 then .mf f (caps.toList.map opd) else .bad
  | .makeSlice t l c => match elemOf' P t with
    | some (_, es, bytes, z) => .mk es bytes (cellsOf z) (opd l) (opd c)
    | none => .bad
  | .slice t x lo hi mx => match P.underlying t with
    | some .string => .sl 0 (opd x) (lo.map opd) (hi.map opd) (mx.map opd)
    | some (.slice e) => match szOf P e with
      | some es => if 0 < es then .sl es (opd x) (lo.map opd) (hi.map opd) (mx.map opd) else .bad
      | none => .bad
    | _ => .bad
  | .fieldAddr t x k => match P.underlying t with
    | some (.struct fs) => match fs[k]? with
      | some f => match szOf P f.type with
        | some sz => if 0 < sz then .fa f.offset (opd x) else .bad
        | none => .bad
      | none => .bad
    | _ => .bad
  | .field t x k => match P.underlying t with
    | some (.struct fs) => match fs[k]? with
      | some f => match szOf P f.type, agOf P f.type with
        | some sz, some ag => if ag = true ∨ sz = 1 then .fd f.offset sz ag (opd x) else .bad
        | _, _ => .bad
      | none => .bad
    | _ => .bad
  | .indexAddr t x i => match elemOf' P t with
    | some (_, es, _, _) => .ia es (opd x) (opd i)
    | none => .bad
  | .index t x i => match P.underlying t with
    | some .string => .ix (opd x) (opd i)
    | _ => .bad
  | .extract x i => .ex (opd x) i
  | .call c => match c.callee with
    | .value f => .call (opd f) (c.args.toList.map opd)
    | .builtin b => match b, c.args.toList, c.argTypes.toList with
      | .append, [x, y], [t, u] => match elemOf' P t with
        | some (_, es, bytes, z) => if t = u then .ap es bytes (opd x) (opd y) else match P.underlying u with
          | some (.int _) => .apz es bytes (cellsOf z) (opd x) (opd y)
          | _ => .bad
        | none => .bad
      | .len, [x], [t] => match P.underlying t with
        | some .string => .len true (opd x)
        | some (.slice _) => .len false (opd x)
        | _ => .bad
      | .cap, [x], [t] => match P.underlying t with
        | some (.slice _) => .cap (opd x)
        | _ => .bad
      | .max, [x, y], _ => .mxi (opd x) (opd y)
      | .min, [x, y], _ => .mni (opd x) (opd y)
      | .clear, [x], [t] => match elemOf' P t with
        | some (_, es, _, z) => .clr es (cellsOf z) (opd x)
        | none => .bad
      | _, _, _ => .bad
    | .invoke .. => .bad
  | _ => .bad
def operOf (P : Program) (ops : Array Oper) (o : Oper) : AOper :=
  { dst := o.dst, op := opOf P o, guard := match o.guard with
    | none => none
    | some (j, b) => match (ops[j]?).bind (·.dst) with
      | some t => some (t, b)
      | none => some (0, b) }

/-- May the operation turn objects, look at objects? -/
def AOp.turns {α : Type} : AOp α → Bool
  | .new _ | .box _ | .rowOf .. | .st .. | .mk .. | .ap .. | .apz .. | .clr .. | .call .. | .bad => true
  | _ => false
def unordered (ops : Array Oper) : List (Nat × Nat) :=
  let b := Region.before ops
  (List.range ops.size).flatMap fun j => (List.range j).filterMap fun i => if (b.getD j 0).testBit i then none else some (i, j)
def pairsOf (P : Program) (ops : Array Oper) : List (Nat × Nat) :=
  (unordered ops).filter fun p => match ops[p.1]?, ops[p.2]? with
    | some x, some y => ((opOf P x).turns && ((opOf P y).turns || (opOf P y).looks)) || ((opOf P y).turns && (opOf P x).looks)
    | _, _ => false

/-- 'c' is read as 'a' (loops bear any list of living temporaries). -/
inductive Is (P : Program) : Code → ACode → Prop where
  | skip : Is P .skip .skip
  | reg {id ops dr} (hd : dr = true → P.follows .mixedOrders = true) : Is P (.region id ops dr) (.reg (ops.toList.map (operOf P ops)) dr (if dr then pairsOf P ops else []))
  | seq {a b x y} : Is P a x → Is P b y → Is P (.seq a b) (.seq x y)
  | cond {c a b x y} : Is P a x → Is P b y → Is P (.cond c a b) (.cond (opd c) x y)
  | block {id a x} : Is P a x → Is P (.block id a) (.block id x)
  | loop {lv a x} : Is P a x → Is P (.loop a) (.loop lv x)
  | exit {id} : Is P (.exit id) (.exit id)
  | ret : Is P .ret .ret

def readCode (P : Program) : Code → List (List Nat) → Option (ACode × List (List Nat))
  | .skip, l => some (.skip, l)
  | .region _ ops dr, l => if dr && !P.follows .mixedOrders then none else some (.reg (ops.toList.map (operOf P ops)) dr (if dr then pairsOf P ops else []), l)
  | .seq a b, l => (readCode P a l).bind fun p => (readCode P b p.2).bind fun q => some (.seq p.1 q.1, q.2)
  | .cond c a b, l => (readCode P a l).bind fun p => (readCode P b p.2).bind fun q => some (.cond (opd c) p.1 q.1, q.2)
  | .block id a, l => (readCode P a l).bind fun p => some (.block id p.1, p.2)
  | .loop a, l => match l with
    | [] => none
    | lv :: l => (readCode P a l).bind fun p => some (.loop lv p.1, p.2)
  | .exit id, l => some (.exit id, l)
  | .ret, l => some (.ret, l)
  | _, _ => none
theorem readCode_is {P : Program} : ∀ (c : Code) (l : List (List Nat)) (p : ACode × List (List Nat)), readCode P c l = some p → Is P c p.1
  | .skip, l, p, h => by obtain rfl := Option.some.inj h; exact .skip
  | .region id ops dr, l, p, h => by
    simp only [readCode] at h
    split at h
    · cases h
    · rename_i hc
      obtain rfl := Option.some.inj h
      exact .reg (fun hd => by subst hd; simpa using hc)
  | .seq a b, l, p, h => by
    simp only [readCode, Option.bind_eq_some_iff] at h
    obtain ⟨x, hx, y, hy, h⟩ := h
    obtain rfl := Option.some.inj h
    exact .seq (readCode_is a l x hx) (readCode_is b _ y hy)
  | .cond c a b, l, p, h => by
    simp only [readCode, Option.bind_eq_some_iff] at h
    obtain ⟨x, hx, y, hy, h⟩ := h
    obtain rfl := Option.some.inj h
    exact .cond (readCode_is a l x hx) (readCode_is b _ y hy)
  | .block id a, l, p, h => by
    simp only [readCode, Option.bind_eq_some_iff] at h
    obtain ⟨x, hx, h⟩ := h
    obtain rfl := Option.some.inj h
    exact .block (readCode_is a l x hx)
  | .loop a, [], p, h => by simp [readCode] at h
  | .loop a, lv :: l, p, h => by
    simp only [readCode, Option.bind_eq_some_iff] at h
    obtain ⟨x, hx, h⟩ := h
    obtain rfl := Option.some.inj h
    exact .loop (readCode_is a l x hx)
  | .exit id, l, p, h => by obtain rfl := Option.some.inj h; exact .exit
  | .ret, l, p, h => by obtain rfl := Option.some.inj h; exact .ret
  | .rangeFunc .., _, _, h => by simp [readCode] at h
  | .scope _, _, _, h => by simp [readCode] at h
  | .label _, _, _, h => by simp [readCode] at h
  | .goto _, _, _, h => by simp [readCode] at h
  | .refuse _, _, _, h => by simp [readCode] at h

/-! What is asked of a region ahead of all runs. -/
def drawOk (ops : Array Oper) : Bool :=
  let b := Region.before ops
  (List.range ops.size).all fun j => match ops[j]? with
    | none => true
    | some oj => (oj.after.toList.all fun e => !Region.binds .any e || decide (e.on < j)) && (List.range ops.size).all fun i => i == j || match ops[i]? with
      | none => true
      | some oi => match oi.dst with
        | none => true
        | some d => !(oj.dst == some d) && (!(oj.looksAt ops).contains d || (if i < j then (b.getD j 0).testBit i else (b.getD i 0).testBit j))
def regOk (n : Nat) (ps : List Nat) (ops : Array Oper) (dr : Bool) : Bool :=
  (ops.toList.all fun o => (match o.dst with
    | some d => decide (d < n) && !ps.contains d
    | none => true) && (match o.guard with
    | some (j, _) => ((ops[j]?).bind (·.dst)).isSome
    | none => true)) && (!dr || drawOk ops)
def fits (n : Nat) (ps : List Nat) : Code → Bool
  | .region _ ops dr => regOk n ps ops dr
  | .seq a b => fits n ps a && fits n ps b
  | .cond _ a b => fits n ps a && fits n ps b
  | .block _ a => fits n ps a
  | .loop a => fits n ps a
  | _ => true

def resRead (P : Program) : ResultVar → Option ARes
  | .tmp t => some (.t t)
  | .cell n t => match szOf P t, agOf P t with
    | some sz, some ag => if ag = true ∨ sz = 1 then some (.cell n sz ag) else none
    | _, _ => none
def readFn (P : Program) (f : Func) (md : List Bool) (gn : List Nat) (lv : List (List Nat)) : Option AFn :=
  f.body.bind fun c => if fits f.ntmps ((trues md 0).filter fun t => !gn.contains t) c = true then (readCode P c lv).bind fun p => (f.results.toList.mapM (resRead P)).bind fun rs => some { modes := md, code := p.1, res := rs, gone := gn } else none
end Go.Eng
