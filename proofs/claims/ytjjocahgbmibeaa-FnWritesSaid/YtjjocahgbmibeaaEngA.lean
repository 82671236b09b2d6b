/- An abstract machine over loaded code: its values, its memory, what one operation does. Definitions only. -/
import Derived.Orders
import Derived.Below
namespace Go.Eng

/-- Values. 'own' and 'obx' stand at calls' borders alone; 'row', 'view', 'elt' name objects of one frame. -/
inductive AV where
  | i (k : IntKind) (n : Int)
  | b (x : Bool)
  | s (x : ByteArray)
  | emp
  | fro (fl : Bool) (es : Nat) (xs : List (List AV))
  | row (id : Nat)
  | view (id lo hi : Nat)
  | past (id : Nat)
  | agg (cs : List AV)
  | tup (cs : List AV)
  | elt (id i j : Nat)
  | fptr (cs : List AV) (j : Nat)
  | clo (f : Nat) (cs : List AV)
  | own (fl : Bool) (es mc : Nat) (xs : List (List AV))
  | obx (cs : List AV) (j : Nat)
  | anyb
  | junk
  deriving Inhabited

/-- Objects of a frame. -/
inductive AObj where
  | box (cs : List AV)
  | row (fl : Bool) (es mc : Nat) (xs : List (List AV))
  | frow (fl : Bool) (es : Nat) (xs : List (List AV))
  | dead
  deriving Inhabited

inductive AOpd where
  | t (n : Nat)
  | c (v : AV)
  deriving Inhabited

inductive AOp (α : Type) where
  | mv (x : α)
  | pick (c x y : α)
  | new (z : List AV)
  | box (x : α)
  | build (z : List AV) (ps : List (Nat × Nat × α))
  | rowOf (es : Nat) (z : List AV) (n : Nat) (ps : List (Nat × α))
  | ld (sz : Nat) (ag : Bool) (x : α)
  | st (sz : Nat) (x v : α)
  | nc (x : α)
  | bin (op : BinOp) (x y : α)
  | eqb (ne : Bool) (x y : α)
  | eqa (ne : Bool) (os : List (Nat × Bool)) (x y : α)
  | un (op : UnOp) (x : α)
  | cvI (k : IntKind) (x : α)
  | cvS (x : α)
  | cvB (x : α)
  | mf (f : Nat) (cs : List α)
  | mk (es bytes : Nat) (z : List AV) (len cap : α)
  | sl (es : Nat) (x : α) (lo hi mx : Option α)
  | fa (off : Nat) (x : α)
  | fd (off sz : Nat) (ag : Bool) (x : α)
  | ia (es : Nat) (x i : α)
  | ix (x i : α)
  | ex (x : α) (i : Nat)
  | ap (es bytes : Nat) (x y : α)
  | apz (es bytes : Nat) (z : List AV) (x n : α)
  | len (str : Bool) (x : α)
  | cap (x : α)
  | mxi (x y : α)
  | mni (x y : α)
  | clr (es : Nat) (z : List AV) (x : α)
  | eqn (ne : Bool) (x : α)
  | call (f : α) (args : List α)
  | bad

def AOp.map {α β : Type} (g : α → β) : AOp α → AOp β
  | .mv x => .mv (g x) | .pick c x y => .pick (g c) (g x) (g y) | .new z => .new z | .box x => .box (g x)
  | .build z ps => .build z (ps.map fun p => (p.1, p.2.1, g p.2.2)) | .rowOf es z n ps => .rowOf es z n (ps.map fun p => (p.1, g p.2))
  | .ld sz ag x => .ld sz ag (g x) | .st sz x v => .st sz (g x) (g v) | .nc x => .nc (g x) | .bin op x y => .bin op (g x) (g y)
  | .eqb ne x y => .eqb ne (g x) (g y) | .eqa ne os x y => .eqa ne os (g x) (g y) | .un op x => .un op (g x)
  | .cvI k x => .cvI k (g x) | .cvS x => .cvS (g x) | .cvB x => .cvB (g x) | .mf f cs => .mf f (cs.map g)
  | .mk es bytes z l c => .mk es bytes z (g l) (g c) | .sl es x lo hi mx => .sl es (g x) (lo.map g) (hi.map g) (mx.map g)
  | .fa off x => .fa off (g x) | .fd off sz ag x => .fd off sz ag (g x) | .ia es x i => .ia es (g x) (g i) | .ix x i => .ix (g x) (g i)
  | .ex x i => .ex (g x) i | .ap es bytes x y => .ap es bytes (g x) (g y) | .apz es bytes z x n => .apz es bytes z (g x) (g n)
  | .len str x => .len str (g x) | .cap x => .cap (g x) | .mxi x y => .mxi (g x) (g y) | .mni x y => .mni (g x) (g y) | .clr es z x => .clr es z (g x)
  | .eqn ne x => .eqn ne (g x) | .call f args => .call (g f) (args.map g) | .bad => .bad

/-- One operation of a region: where its value goes, what it does, under which guard (the temporary of the guarding operation). -/
structure AOper where
  dst : Option Nat
  op : AOp AOpd
  guard : Option (Nat × Bool) := none

inductive ACode where
  | skip
  | reg (ops : List AOper) (draw : Bool) (pairs : List (Nat × Nat))
  | seq (a b : ACode)
  | cond (c : AOpd) (x y : ACode)
  | block (id : Nat) (x : ACode)
  | loop (live : List Nat) (x : ACode)
  | exit (id : Nat)
  | ret

inductive ARes where
  | t (n : Nat)
  | cell (n sz : Nat) (ag : Bool)

/-- A function: which parameters it may write through, how many there are, its code, its results. -/
structure AFn where
  modes : List Bool
  code : ACode
  res : List ARes
  gone : List Nat

abbrev Mem := Nat → Option AObj
abbrev Ups := List (Nat × AObj)
def setM (m : Mem) (id : Nat) (o : AObj) : Mem := fun k => if k = id then some o else m k
def putM (m : Mem) (u : Ups) : Mem := u.foldl (fun m p => setM m p.1 p.2) m

/-- The cells of a value. -/
def AV.cells : AV → Option (List AV)
  | .agg cs => some cs
  | .tup _ | .junk | .own .. | .obx .. => none
  | v => some [v]
/-- A value that is one cell, and leads to nothing. -/
def AV.lit : AV → Bool
  | .i .. | .b _ | .s _ | .emp => true
  | _ => false
/-- A value that leads to frozen memory at most. -/
def AV.plain : AV → Bool
  | .i .. | .b _ | .s _ | .emp | .fro .. | .fptr .. => true
  | _ => false

def ofCell : Value → AV
  | .bool x => .b x
  | .int k n => .i k n
  | .string x => .s x
  | .slice none 0 0 => .emp
  | _ => .junk
def ofVal : Value → AV
  | .agg cs => if cs.all Value.oneCell' then .agg (cs.toList.map ofCell) else .junk
  | v => ofCell v

def getI {α : Type} (xs : List α) (i : Int) : Option α := if 0 ≤ i then xs[i.toNat]? else none

/-- The elements of a slice. -/
def sliceOf (m : Mem) (es : Nat) : AV → Option (Bool × List (List AV))
  | .emp => some (true, [])
  | .fro fl es' xs => if es' = es then some (fl, xs) else none
  | .row id => match m id with
    | some (.row fl es' _ xs) => if es' = es then some (fl, xs) else none
    | some (.frow fl es' xs) => if es' = es then some (fl, xs) else none
    | _ => none
  | .view id lo hi => match m id with
    | some (.row fl es' _ xs) => if es' = es ∧ lo ≤ hi ∧ hi ≤ xs.length then some (fl, (xs.take hi).drop lo) else none
    | some (.frow fl es' xs) => if es' = es ∧ lo ≤ hi ∧ hi ≤ xs.length then some (fl, (xs.take hi).drop lo) else none
    | _ => none
  | _ => none

def lenOf (m : Mem) : AV → Option Nat
  | .emp => some 0
  | .fro _ _ xs => some xs.length
  | .row id => match m id with
    | some (.row _ _ _ xs) => some xs.length
    | some (.frow _ _ xs) => some xs.length
    | _ => none
  | .view _ lo hi => if lo ≤ hi then some (hi - lo) else none
  | _ => none

/-- A cell as it may lie in a row: own rows that it leads to are frozen. -/
def fzCell (m : Mem) : AV → Option (AV × Ups)
  | .row id => match m id with
    | some (.row fl es _ xs) => some (.fro fl es xs, [(id, .frow fl es xs)])
    | some (.frow fl es xs) => some (.fro fl es xs, [])
    | _ => none
  | .view id lo hi => match m id with
    | some (.row fl es _ xs) => if lo ≤ hi ∧ hi ≤ xs.length then some (.fro fl es ((xs.take hi).drop lo), [(id, .frow fl es xs)]) else none
    | some (.frow fl es xs) => if lo ≤ hi ∧ hi ≤ xs.length then some (.fro fl es ((xs.take hi).drop lo), []) else none
    | _ => none
  | v => if v.plain then some (v, []) else none
def fzCells (m : Mem) : List AV → Option (List AV × Ups)
  | [] => some ([], [])
  | c :: cs => (fzCell m c).bind fun p => (fzCells (putM m p.2) cs).bind fun q => some (p.1 :: q.1, p.2 ++ q.2)

/-- A part is laid over cells. -/
def lay {α : Type} (cs : List α) (off : Nat) (ps : List α) : List α := cs.take off ++ ps ++ cs.drop (off + ps.length)

def buildOf (cs : List AV) : List (Nat × Nat × AV) → Option (List AV)
  | [] => some cs
  | (off, sz, v) :: rest => v.cells.bind fun ps => if ps.length = sz ∧ off + sz ≤ cs.length then buildOf (lay cs off ps) rest else none

def rowParts (m : Mem) (es n : Nat) (xs : List (List AV)) : List (Nat × AV) → Option (List (List AV) × Ups)
  | [] => some (xs, [])
  | (k, v) :: rest => v.cells.bind fun ps => if ps.length = es ∧ k < n then
      (fzCells m ps).bind fun p => (rowParts (putM m p.2) es n (xs.set k p.1) rest).bind fun q => some (q.1, p.2 ++ q.2)
    else none

def litRow (xs : List (List AV)) : Bool := xs.all fun x => x.all AV.lit

def binI (op : BinOp) (k : IntKind) (x y : Int) : Option AV :=
  match op with
  | .add => some (.i k (k.wrap (x + y)))
  | .sub => some (.i k (k.wrap (x - y)))
  | .mul => some (.i k (k.wrap (x * y)))
  | .quo => if y = 0 then none else some (.i k (k.wrap (x.tdiv y)))
  | .rem => if y = 0 then none else some (.i k (x.tmod y))
  | .and => some (.i k (k.wrap (BitVec.ofInt k.bits x &&& BitVec.ofInt k.bits y).toNat))
  | .or => some (.i k (k.wrap (BitVec.ofInt k.bits x ||| BitVec.ofInt k.bits y).toNat))
  | .xor => some (.i k (k.wrap (BitVec.ofInt k.bits x ^^^ BitVec.ofInt k.bits y).toNat))
  | .eql => some (.b (decide (x = y)))
  | .neq => some (.b (!decide (x = y)))
  | .lss => some (.b (decide (x < y)))
  | .leq => some (.b (decide (x ≤ y)))
  | .gtr => some (.b (decide (x > y)))
  | .geq => some (.b (decide (x ≥ y)))
  | _ => none
def binOf (op : BinOp) : AV → AV → Option AV
  | .i k x, .i k' y =>
    match op with
    | .shl => if y < 0 then none else some (.i k (k.wrap (x * 2 ^ (min y.toNat k.bits))))
    | .shr => if y < 0 then none else some (.i k (x.fdiv (2 ^ (min y.toNat k.bits))))
    | _ => if k = k' then binI op k x y else none
  | .s x, .s y =>
    match op with
    | .eql => some (.b (x.toList == y.toList))
    | .neq => some (.b (!(x.toList == y.toList)))
    | _ => none
  | _, _ => none
/-- Two cells are the same. -/
def eqCell : Bool → AV → AV → Option Bool
  | false, .i k x, .i k' y => if k = k' then some (x == y) else none
  | true, .b x, .b y => some (x == y)
  | _, _, _ => none
def eqCells : List (Nat × Bool) → List AV → List AV → Option Bool
  | [], _, _ => some true
  | o :: os, xs, ys => match xs[o.1]?, ys[o.1]? with
    | some x, some y => (eqCell o.2 x y).bind fun r => if r then eqCells os xs ys else some false
    | _, _ => none

def byteCell : List AV → Option Nat
  | [.i .u8 n] => if 0 ≤ n ∧ n < 256 then some n.toNat else none
  | _ => none
def bytesCells (xs : List (List AV)) : Option ByteArray :=
  (xs.mapM byteCell).map fun ns => ⟨(ns.map fun n => UInt8.ofNat n).toArray⟩
def cellsBytes (s : ByteArray) : List (List AV) := s.data.toList.map fun x => [.i .u8 (x.toNat : Int)]

/-- A bound of a slice expression. -/
def bndOf (d : Nat) : Option AV → Option Nat
  | none => some d
  | some (.i _ n) => if 0 ≤ n then some n.toNat else none
  | _ => none

/-- A slice expression: 'es' is 0 at strings. -/
def slOf (m : Mem) (es : Nat) (x : AV) (lo hi mx : Option AV) : Option AV :=
  if mx.isSome = true ∧ hi.isNone = true then none else
  match x with
  | .s y => if es = 0 ∧ mx.isNone = true then
      (bndOf y.size hi).bind fun h => (bndOf 0 lo).bind fun l => if l ≤ h ∧ h ≤ y.size then some (.s (y.extract l h)) else none
    else none
  | .emp => if es = 0 then none else
      (bndOf 0 mx).bind fun c => (bndOf 0 hi).bind fun h => (bndOf 0 lo).bind fun l => if c = 0 ∧ h = 0 ∧ l = 0 then some .emp else none
  | .fro fl es' xs => if es = 0 ∨ es' ≠ es then none else
      (bndOf xs.length hi).bind fun h => (bndOf 0 lo).bind fun l => (bndOf xs.length mx).bind fun c =>
        if l ≤ h ∧ h ≤ c ∧ c ≤ xs.length then some (if mx.isNone = true then .fro fl es ((xs.take h).drop l) else if c = l then .emp else .junk) else none
  | .row id => match m id with
    | some (.row _ es' mc xs) => if es = 0 ∨ es' ≠ es then none else
      (bndOf xs.length hi).bind fun h => (bndOf 0 lo).bind fun l => (bndOf xs.length mx).bind fun c =>
        if l ≤ h ∧ h ≤ c ∧ c ≤ xs.length then some (if mx.isNone = true then .view id l h else if c = l then .emp else .junk)
        else if mx.isNone = true ∧ xs.length ≤ l ∧ l ≤ h ∧ h ≤ mc then some (.past id) else none
    | some (.frow fl es' xs) => if es = 0 ∨ es' ≠ es then none else
      (bndOf xs.length hi).bind fun h => (bndOf 0 lo).bind fun l => (bndOf xs.length mx).bind fun c =>
        if l ≤ h ∧ h ≤ c ∧ c ≤ xs.length then some (if mx.isNone = true then .fro fl es ((xs.take h).drop l) else if c = l then .emp else .junk) else none
    | _ => none
  | .view id lo0 hi0 => match m id with
    | some (.row _ es' _ _) => if es = 0 ∨ es' ≠ es ∨ mx.isSome = true ∨ hi0 < lo0 then none else
      (bndOf (hi0 - lo0) hi).bind fun h => (bndOf 0 lo).bind fun l => if l ≤ h ∧ h ≤ hi0 - lo0 then some (.view id (lo0 + l) (lo0 + h)) else none
    | some (.frow _ es' _) => if es = 0 ∨ es' ≠ es ∨ mx.isSome = true ∨ hi0 < lo0 then none else
      (bndOf (hi0 - lo0) hi).bind fun h => (bndOf 0 lo).bind fun l => if l ≤ h ∧ h ≤ hi0 - lo0 then some (.view id (lo0 + l) (lo0 + h)) else none
    | _ => none
  | _ => none

/-- What an append makes: the elements and the least room of the new row. -/
def apDst (m : Mem) (es : Nat) : AV → Option (Bool × Nat × List (List AV) × Ups)
  | .emp => some (true, 0, [], [])
  | .row id => match m id with
    | some (.row fl es' mc xs) => if es' = es then some (fl, mc, xs, [(id, .dead)]) else none
    | _ => none
  | .view id lo hi => match m id with
    | some (.row fl es' mc xs) => if es' = es ∧ lo = 0 ∧ hi ≤ xs.length then some (fl, mc, xs.take hi, [(id, .dead)]) else none
    | _ => none
  | _ => none
def apOf (m : Mem) (nid es bytes : Nat) (x : AV) (fl' : Bool) (ys : List (List AV)) : Option (AV × Ups) :=
  (apDst m es x).bind fun p =>
    if (p.2.2.1.length + ys.length) * bytes ≤ 140737488355328 ∧ p.2.2.1.length + ys.length ≤ 9223372036854775807 then
      some (.row nid, p.2.2.2 ++ [(nid, .row (p.1 && fl') es (max p.2.1 (p.2.2.1.length + ys.length)) (p.2.2.1 ++ ys))]) else none

def one (ag : Bool) (cs : List AV) : Option AV := if ag then some (.agg cs) else match cs with
  | [c] => some c
  | _ => none

/-- What a pointer leads to: its cells. -/
def ptrCells (m : Mem) : AV → Option (List AV × Nat)
  | .elt id i j => match m id with
    | some (.box cs) => if i = 0 then some (cs, j) else none
    | some (.row _ _ _ xs) => (xs[i]?).map fun x => (x, j)
    | some (.frow _ _ xs) => (xs[i]?).map fun x => (x, j)
    | _ => none
  | .fptr cs j => some (cs, j)
  | _ => none

/-- One operation, but for calls: its value, and the objects that it turns. -/
def act (nid : Nat) (m : Mem) : AOp AV → Option (AV × Ups)
  | .mv x => some (x, [])
  | .pick c x y => match c with
    | .b c => some (if c then x else y, [])
    | _ => none
  | .new z => some (.elt nid 0 0, [(nid, .box z)])
  | .box x => x.cells.bind fun cs => some (.elt nid 0 0, [(nid, .box cs)])
  | .build z ps => (buildOf z ps).bind fun cs => some (.agg cs, [])
  | .rowOf es z n ps => (rowParts m es n (List.replicate n z) ps).bind fun p => if z.length = es ∧ z.all AV.lit then
      some (.row nid, p.2 ++ [(nid, .row (litRow p.1) es n p.1)]) else none
  | .ld sz ag x => (ptrCells m x).bind fun p => if p.2 + sz ≤ p.1.length then (one ag ((p.1.drop p.2).take sz)).bind fun v => some (v, []) else none
  | .st sz x v => match x with
    | .elt id i j => v.cells.bind fun ps => if ps.length = sz then
        match m id with
        | some (.box cs) => if i = 0 ∧ j + sz ≤ cs.length then some (.junk, [(id, .box (lay cs j ps))]) else none
        | some (.row fl es mc xs) => (fzCells m ps).bind fun p => match xs[i]? with
          | some c => if j + sz ≤ c.length ∧ p.2.all (fun u => !(u.1 == id)) then some (.junk, p.2 ++ [(id, .row (fl && p.1.all AV.lit) es mc (xs.set i (lay c j p.1)))]) else none
          | none => none
        | _ => none
      else none
    | _ => none
  | .nc x => match x with
    | .elt .. | .fptr .. => some (x, [])
    | _ => none
  | .bin op x y => (binOf op x y).bind fun v => some (v, [])
  | .eqb ne x y => match x, y with
    | .b x, .b y => some (.b (if ne then !(x == y) else x == y), [])
    | _, _ => none
  | .eqa ne os x y => match x, y with
    | .agg xs, .agg ys => (eqCells os xs ys).bind fun r => some (.b (if ne then !r else r), [])
    | _, _ => none
  | .un op x => match op, x with
    | .neg, .i k n => some (.i k (k.wrap (0 - n)), [])
    | .not, .b x => some (.b (!x), [])
    | _, _ => none
  | .cvI k x => match x with
    | .i _ n => some (.i k (k.wrap n), [])
    | _ => none
  | .cvS x => (sliceOf m 1 x).bind fun p => (bytesCells p.2).bind fun s => some (.s s, [])
  | .cvB x => match x with
    | .s s => some (.fro true 1 (cellsBytes s), [])
    | _ => none
  | .mf f cs => some (.clo f cs, [])
  | .mk es bytes z l c => match l, c with
    | .i _ l, .i _ c => if 0 ≤ l ∧ l ≤ c ∧ bytes * c ≤ 140737488355328 ∧ c ≤ 9223372036854775807 ∧ z.length = es ∧ z.all AV.lit then
        some (.row nid, [(nid, .row true es c.toNat (List.replicate l.toNat z))]) else none
    | _, _ => none
  | .sl es x lo hi mx => (slOf m es x lo hi mx).bind fun v => some (v, [])
  | .fa off x => match x with
    | .elt id i j => some (.elt id i (j + off), [])
    | .fptr cs j => some (.fptr cs (j + off), [])
    | _ => none
  | .fd off sz ag x => match x with
    | .agg cs => if off + sz ≤ cs.length then (one ag ((cs.drop off).take sz)).bind fun v => some (v, []) else none
    | _ => none
  | .ia es x i => match i with
    | .i _ i => match x with
      | .fro _ es' xs => if es' = es then (getI xs i).bind fun c => some (.fptr c 0, []) else none
      | .row id => match m id with
        | some (.row _ es' _ xs) => if es' = es ∧ 0 ≤ i ∧ i < xs.length then some (.elt id i.toNat 0, []) else none
        | some (.frow _ es' xs) => if es' = es ∧ 0 ≤ i ∧ i < xs.length then some (.elt id i.toNat 0, []) else none
        | _ => none
      | .view id lo hi => match m id with
        | some (.row _ es' _ xs) => if es' = es ∧ hi ≤ xs.length ∧ 0 ≤ i ∧ i < ((hi - lo : Nat) : Int) then some (.elt id (lo + i.toNat) 0, []) else none
        | some (.frow _ es' xs) => if es' = es ∧ hi ≤ xs.length ∧ 0 ≤ i ∧ i < ((hi - lo : Nat) : Int) then some (.elt id (lo + i.toNat) 0, []) else none
        | _ => none
      | _ => none
    | _ => none
  | .ix x i => match x, i with
    | .s s, .i _ i => (getI s.data.toList i).bind fun u => some (.i .u8 (u.toNat : Int), [])
    | _, _ => none
  | .ex x i => match x with
    | .tup cs => (cs[i]?).bind fun v => some (v, [])
    | _ => none
  | .ap es bytes x y => (sliceOf m es y).bind fun q => apOf m nid es bytes x q.1 q.2
  | .apz es bytes z x n => match n with
    | .i _ n => if 0 ≤ n ∧ z.length = es ∧ z.all AV.lit then apOf m nid es bytes x true (List.replicate n.toNat z) else none
    | _ => none
  | .len str x => if str then match x with
      | .s s => some (.i .i64 (s.size : Int), [])
      | _ => none
    else (lenOf m x).bind fun n => some (.i .i64 (n : Int), [])
  | .cap x => match x with
    | .emp => some (.i .i64 0, [])
    | _ => none
  | .mxi x y => match x, y with
    | .i k x, .i k' y => if k = k' then some (.i k (if y > x then y else x), []) else none
    | _, _ => none
  | .mni x y => match x, y with
    | .i k x, .i k' y => if k = k' then some (.i k (if y < x then y else x), []) else none
    | _, _ => none
  | .clr es z x => if z.length = es ∧ z.all AV.lit then match x with
    | .emp => some (.tup [], [])
    | .past id => match m id with
      | some (.row fl es' mc xs) => if es' = es then some (.tup [], [(id, .row fl es mc xs)]) else none
      | _ => none
    | .view id lo hi => match m id with
      | some (.row fl es' mc xs) => if es' = es ∧ lo ≤ hi ∧ hi ≤ xs.length then
          some (.tup [], [(id, .row fl es mc (lay xs lo (List.replicate (hi - lo) z)))]) else none
      | _ => none
    | _ => none
    else none
  | .eqn ne x => match x with
    | .fro _ _ xs => some (if xs.isEmpty then .anyb else .b ne, [])
    | .emp | .row _ | .view .. => some (.anyb, [])
    | _ => none
  | .call .. => none
  | .bad => none
end Go.Eng
