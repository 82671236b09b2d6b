/- What values of the abstract machine stand for in a world; what stays so while the world goes on. -/
import Derived.Test.YtjjocahgbmibeaaEngB
import Derived.Laws.AppendOwn
import Derived.Laws.NewBlocks
namespace Go.Eng
set_option linter.unusedVariables false

def noF : Nat → Prop := fun _ => False
def FF (fl : Bool) (F : Nat → Prop) : Nat → Prop := if fl then noF else F

theorem addr_add_add (a : Addr) (i j : Nat) : (a.add i).add j = a.add (i + j) := by
  unfold Addr.add
  by_cases hi : i = 0 <;> by_cases hj : j = 0 <;> simp [hi, hj, Nat.add_assoc]
theorem addr_add_block (a : Addr) (i : Nat) : (a.add i).block = a.block := by unfold Addr.add; split <;> rfl
theorem addr_add_plain (g j : Nat) : (⟨g, 0, none⟩ : Addr).add j = ⟨g, j, none⟩ := by unfold Addr.add; split <;> simp_all

/-- Frozen values: what they lead to lies in blocks of F. -/
inductive RelF (w : World) : (Nat → Prop) → AV → Value → Prop where
  | i {F k n} : RelF w F (.i k n) (.int k n)
  | b {F x} : RelF w F (.b x) (.bool x)
  | s {F x} : RelF w F (.s x) (.string x)
  | emp {F A} : RelF w F .emp (.slice A 0 0)
  | fro {F fl es xs A c} (vs : List Value) (hes : ∀ x, x ∈ xs → x.length = es) (hc : xs.length ≤ c) (hl : vs.length = xs.flatten.length)
      (hA : xs ≠ [] → ∃ a, A = some a ∧ F a.block ∧ ∀ (q : Nat) v, vs[q]? = some v → w.cell? (a.add q) = some v)
      (hv : ∀ (q : Nat) u v, xs.flatten[q]? = some u → vs[q]? = some v → RelF w (FF fl F) u v) : RelF w F (.fro fl es xs) (.slice A xs.length c)
  | fptr {F cs j} {p : Addr} (vs : List Value) (hl : vs.length = cs.length) (hF : F p.block) (hA : ∀ (q : Nat) v, vs[q]? = some v → w.cell? (p.add q) = some v)
      (hv : ∀ (q : Nat) u v, cs[q]? = some u → vs[q]? = some v → RelF w F u v) : RelF w F (.fptr cs j) (.pointer (some (p.add j)))

/-- What is frozen stays as it is. -/
def Mono (w : World) (F : Nat → Prop) (w' : World) (F' : Nat → Prop) : Prop := ∀ k, F k → F' k ∧ w'.heap[k]? = w.heap[k]?
theorem Mono.refl (w : World) (F : Nat → Prop) : Mono w F w F := fun _ h => ⟨h, rfl⟩
theorem Mono.trans {w w1 w2 : World} {F F1 F2 : Nat → Prop} (h : Mono w F w1 F1) (h' : Mono w1 F1 w2 F2) : Mono w F w2 F2 :=
  fun k hk => ⟨(h' k (h k hk).1).1, (h' k (h k hk).1).2.trans (h k hk).2⟩
theorem Mono.ff {w w' : World} {F F' : Nat → Prop} (fl : Bool) (h : Mono w F w' F') : Mono w (FF fl F) w' (FF fl F') := by
  cases fl
  · exact h
  · exact fun k hk => hk.elim
theorem mono_noF (w w' : World) (F : Nat → Prop) : Mono w noF w' F := fun _ h => h.elim
theorem RelF.mono {w w' : World} {F : Nat → Prop} {a : AV} {v : Value} (h : RelF w F a v) : ∀ {F' : Nat → Prop}, Mono w F w' F' → RelF w' F' a v := by
  induction h with
  | i => exact fun _ => .i
  | b => exact fun _ => .b
  | s => exact fun _ => .s
  | emp => exact fun _ => .emp
  | fro vs hes hc hl hA hv ih =>
    intro F' hm
    refine .fro vs hes hc hl (fun hx => ?_) (fun q u v hu hv => ih q u v hu hv (hm.ff _))
    obtain ⟨a, rfl, hF, hcell⟩ := hA hx
    refine ⟨a, rfl, (hm _ hF).1, fun q v hq => (World.cell?_of_block ?_).trans (hcell q v hq)⟩
    rw [addr_add_block]; exact (hm _ hF).2
  | @fptr F cs j p vs hl hF hA hv ih =>
    intro F' hm
    refine .fptr vs hl (hm _ hF).1 (fun q v hq => (World.cell?_of_block ?_).trans (hA q v hq)) (fun q u v hu hv => ih q u v hu hv hm)
    rw [addr_add_block]; exact (hm _ hF).2
theorem RelF.one {w : World} {F : Nat → Prop} {a : AV} {v : Value} (h : RelF w F a v) : v.oneCell' = true := by cases h <;> rfl
theorem RelF.plain {w : World} {F : Nat → Prop} {a : AV} {v : Value} (h : RelF w F a v) : a.plain = true := by cases h <;> rfl
theorem RelF.lit {w w' : World} {F F' : Nat → Prop} {a : AV} {v : Value} (h : RelF w F a v) (hl : a.lit = true) : RelF w' F' a v := by
  cases h with
  | i => exact .i
  | b => exact .b
  | s => exact .s
  | emp => exact .emp
  | fro => simp [AV.lit] at hl
  | fptr => simp [AV.lit] at hl
theorem RelF.cells {w : World} {F : Nat → Prop} {a : AV} {v : Value} (h : RelF w F a v) : a.cells = some [a] := by cases h <;> rfl

/-- Where an object of the frame lies. -/
structure Loc where
  A : Option Addr
  len : Nat
  cap : Nat
  es : Nat
abbrev Sig := Nat → Option Loc
def Sub (σ σ' : Sig) : Prop := ∀ id ℓ, σ id = some ℓ → σ' id = some ℓ
theorem Sub.refl (σ : Sig) : Sub σ σ := fun _ _ h => h
theorem Sub.trans {a b c : Sig} (h : Sub a b) (h' : Sub b c) : Sub a c := fun id ℓ hk => h' id ℓ (h id ℓ hk)
def setS (σ : Sig) (id : Nat) (ℓ : Loc) : Sig := fun k => if k = id then some ℓ else σ k
theorem sub_setS {σ : Sig} {id : Nat} {ℓ : Loc} (h : σ id = none) : Sub σ (setS σ id ℓ) := by
  intro k ℓ' hk
  unfold setS
  rw [if_neg]
  · exact hk
  · rintro rfl; rw [h] at hk; cases hk
theorem setS_same (σ : Sig) (id : Nat) (ℓ : Loc) : setS σ id ℓ id = some ℓ := by simp [setS]

/-- Values of a frame. -/
inductive RelL (w : World) (σ : Sig) (F : Nat → Prop) : AV → Value → Prop where
  | fz {a v} : RelF w F a v → RelL w σ F a v
  | row {id ℓ} : σ id = some ℓ → RelL w σ F (.row id) (.slice ℓ.A ℓ.len ℓ.cap)
  | view {id lo hi ℓ A c} : σ id = some ℓ → (lo = 0 → A = ℓ.A ∧ c = ℓ.cap) → (lo < hi → A = ℓ.A.map (·.add (lo * ℓ.es))) → hi - lo ≤ c → RelL w σ F (.view id lo hi) (.slice A (hi - lo) c)
  | past {id ℓ A n c lo} : σ id = some ℓ → ℓ.len ≤ lo → lo + n ≤ ℓ.cap → (0 < n → A = ℓ.A.map (·.add (lo * ℓ.es))) → RelL w σ F (.past id) (.slice A n c)
  | elt {id i j ℓ a} : σ id = some ℓ → ℓ.A = some a → RelL w σ F (.elt id i j) (.pointer (some (a.add (i * ℓ.es + j))))
  | agg {cs} {us : Array Value} : us.size = cs.length → (∀ u, u ∈ us → u.oneCell' = true) → (∀ (k : Nat) u v, cs[k]? = some u → us[k]? = some v → RelL w σ F u v) → RelL w σ F (.agg cs) (.agg us)
  | tup {cs} {us : Array Value} : us.size = cs.length → (∀ (k : Nat) u v, cs[k]? = some u → us[k]? = some v → RelL w σ F u v) → RelL w σ F (.tup cs) (.tuple us)
  | clo {f cs} {us : Array Value} : us.size = cs.length → (∀ (k : Nat) u v, cs[k]? = some u → us[k]? = some v → RelL w σ F u v) → RelL w σ F (.clo f cs) (.func (.func f) #[] us)
  | anyb {x} : RelL w σ F .anyb (.bool x)
  | junk {v} : RelL w σ F .junk v
theorem RelL.mono {w w' : World} {σ σ' : Sig} {F F' : Nat → Prop} {a : AV} {v : Value} (h : RelL w σ F a v) (hs : Sub σ σ') (hm : Mono w F w' F') : RelL w' σ' F' a v := by
  induction h with
  | fz h => exact .fz (h.mono hm)
  | row h => exact .row (hs _ _ h)
  | view h h1 h2 h3 => exact .view (hs _ _ h) h1 h2 h3
  | past h h1 h2 h3 => exact .past (hs _ _ h) h1 h2 h3
  | elt h h1 => exact .elt (hs _ _ h) h1
  | agg h h1 h2 ih => exact .agg h h1 (fun k u v hk hv => ih k u v hk hv)
  | tup h h2 ih => exact .tup h (fun k u v hk hv => ih k u v hk hv)
  | clo h h2 ih => exact .clo h (fun k u v hk hv => ih k u v hk hv)
  | anyb => exact .anyb
  | junk => exact .junk
theorem RelL.plain {w : World} {σ : Sig} {F : Nat → Prop} {a : AV} {v : Value} (h : RelL w σ F a v) (hp : a.plain = true) : RelF w F a v := by
  cases h with
  | fz h => exact h
  | _ => simp [AV.plain] at hp

def Env := Nat → AV
def EnvR (w : World) (σ : Sig) (F : Nat → Prop) (e : Nat → AV) (tmps : Array Value) : Prop := ∀ t, RelL w σ F (e t) (tmps.getD t undef)
theorem EnvR.mono {w w' : World} {σ σ' : Sig} {F F' : Nat → Prop} {e : Nat → AV} {tmps : Array Value} (h : EnvR w σ F e tmps) (hs : Sub σ σ') (hm : Mono w F w' F') : EnvR w' σ' F' e tmps :=
  fun t => (h t).mono hs hm

/-- The cells of an object. -/
def CellsL (w : World) (σ : Sig) (F : Nat → Prop) (cs : List AV) (arr : Array Value) : Prop :=
  arr.size = cs.length ∧ ∀ (k : Nat) u, cs[k]? = some u → ∃ v, arr[k]? = some v ∧ RelL w σ F u v ∧ v.oneCell' = true
/-- The elements of an own row, in a block. -/
def RowsF (w : World) (F : Nat → Prop) (xs : List (List AV)) (arr : Array Value) : Prop :=
  ∀ (q : Nat) u, xs.flatten[q]? = some u → ∃ v, arr[q]? = some v ∧ RelF w F u v

/-- Where a frame began: the world, what was frozen, the blocks that it was given to write. -/
structure Ctx where
  w0 : World
  F0 : Nat → Prop
  L0 : List Nat
def Ours (C : Ctx) (F : Nat → Prop) (g : Nat) : Prop := ¬ F g ∧ (g ∈ C.L0 ∨ C.w0.heap.size ≤ g)

def ObjOk (C : Ctx) (w : World) (σ : Sig) (F : Nat → Prop) (id : Nat) : AObj → Prop
  | .box cs => ∃ ℓ g t arr, σ id = some ℓ ∧ ℓ.A = some ⟨g, 0, none⟩ ∧ w.heap[g]? = some (.cells arr t (0, 0)) ∧ CellsL w σ F cs arr ∧ Ours C F g
  | .row fl es mc xs => ∃ ℓ, σ id = some ℓ ∧ ℓ.es = es ∧ ℓ.len = xs.length ∧ mc ≤ ℓ.cap ∧ xs.length ≤ ℓ.cap ∧ ℓ.cap ≤ maxLen ∧ (∀ x, x ∈ xs → x.length = es) ∧
      (0 < ℓ.cap → ∃ g t arr, ℓ.A = some ⟨g, 0, none⟩ ∧ w.heap[g]? = some (.cells arr t (0, 0)) ∧ arr.size = ℓ.cap * es ∧ RowsF w (FF fl F) xs arr ∧ Ours C F g)
  | .frow fl es xs => ∃ ℓ, σ id = some ℓ ∧ ℓ.es = es ∧ ℓ.len = xs.length ∧ RelF w F (.fro fl es xs) (.slice ℓ.A ℓ.len ℓ.cap)
  | .dead => True
/-- The block that an object owns. -/
def Owns (σ : Sig) (id : Nat) : AObj → Nat → Prop
  | .box _, g => ∃ ℓ, σ id = some ℓ ∧ ℓ.A = some ⟨g, 0, none⟩
  | .row .., g => ∃ ℓ, σ id = some ℓ ∧ ℓ.A = some ⟨g, 0, none⟩ ∧ 0 < ℓ.cap
  | _, _ => False

structure Kept' (w w' : World) (L : List Nat) : Prop where
  os : w'.os = w.os
  tape : w'.tape = w.tape
  output : w'.output = w.output
  size : w.heap.size ≤ w'.heap.size
  block : ∀ k, k < w.heap.size → k ∉ L → w'.heap[k]? = w.heap[k]?
theorem Kept'.refl (w : World) (L : List Nat) : Kept' w w L := ⟨rfl, rfl, rfl, Nat.le_refl _, fun _ _ _ => rfl⟩
theorem Kept'.trans {a b c : World} {L : List Nat} (h : Kept' a b L) (k : Kept' b c L) : Kept' a c L :=
  ⟨k.os.trans h.os, k.tape.trans h.tape, k.output.trans h.output, Nat.le_trans h.size k.size, fun i hi hl => (k.block i (Nat.lt_of_lt_of_le hi h.size) hl).trans (h.block i hi hl)⟩
/-- A step that turns blocks of B alone. -/
structure Turns (w w' : World) (B : Nat → Prop) : Prop where
  os : w'.os = w.os
  tape : w'.tape = w.tape
  output : w'.output = w.output
  size : w.heap.size ≤ w'.heap.size
  block : ∀ k, k < w.heap.size → ¬ B k → w'.heap[k]? = w.heap[k]?
theorem Turns.refl (w : World) (B : Nat → Prop) : Turns w w B := ⟨rfl, rfl, rfl, Nat.le_refl _, fun _ _ _ => rfl⟩
theorem Turns.trans {a b c : World} {B : Nat → Prop} (h : Turns a b B) (k : Turns b c B) : Turns a c B :=
  ⟨k.os.trans h.os, k.tape.trans h.tape, k.output.trans h.output, Nat.le_trans h.size k.size, fun i hi hl => (k.block i (Nat.lt_of_lt_of_le hi h.size) hl).trans (h.block i hi hl)⟩
theorem turns_alloc (w : World) (o : Obj) (B : Nat → Prop) : Turns w (w.alloc o) B :=
  ⟨rfl, rfl, rfl, by simp, fun k hk _ => heap_alloc_old w o k hk⟩
theorem turns_drew (w : World) (B : Nat → Prop) : Turns w w.drew B := ⟨rfl, rfl, rfl, Nat.le_refl _, fun _ _ _ => rfl⟩

structure Inv (C : Ctx) (w : World) (σ : Sig) (F : Nat → Prop) (m : Mem) : Prop where
  kept : Kept' C.w0 w C.L0
  fnew : ∀ k, F k → k < w.heap.size ∧ (C.F0 k ∨ k ∈ C.L0 ∨ C.w0.heap.size ≤ k)
  fold : ∀ k, C.F0 k → F k
  objs : ∀ id o, m id = some o → ObjOk C w σ F id o
  apart : ∀ id id' o o' g, m id = some o → m id' = some o' → Owns σ id o g → Owns σ id' o' g → id = id'

theorem Owns.lt {C : Ctx} {w : World} {σ : Sig} {F : Nat → Prop} {id : Nat} {o : AObj} {g : Nat} (h : ObjOk C w σ F id o) (hg : Owns σ id o g) : g < w.heap.size ∧ Ours C F g := by
  cases o with
  | box cs =>
    obtain ⟨ℓ, g', t, arr, h1, h2, h3, _, h5⟩ := h
    obtain ⟨ℓ', h1', h2'⟩ := hg
    rw [h1] at h1'; obtain rfl := Option.some.inj h1'
    rw [h2] at h2'; obtain rfl : g' = g := by simpa using h2'
    exact ⟨(Array.getElem?_eq_some_iff.1 h3).1, h5⟩
  | row fl es mc xs =>
    obtain ⟨ℓ, h1, _, _, _, _, _, _, h3⟩ := h
    obtain ⟨ℓ', h1', h2', h0⟩ := hg
    rw [h1] at h1'; obtain rfl := Option.some.inj h1'
    obtain ⟨g', t, arr, h4, h5, _, _, h7⟩ := h3 h0
    rw [h4] at h2'; obtain rfl : g' = g := by simpa using h2'
    exact ⟨(Array.getElem?_eq_some_iff.1 h5).1, h7⟩
  | frow => exact hg.elim
  | dead => exact hg.elim

theorem CellsL.mono {w w' : World} {σ σ' : Sig} {F F' : Nat → Prop} {cs : List AV} {arr : Array Value} (h : CellsL w σ F cs arr) (hs : Sub σ σ') (hm : Mono w F w' F') : CellsL w' σ' F' cs arr :=
  ⟨h.1, fun k u hk => let ⟨v, h1, h2, h3⟩ := h.2 k u hk; ⟨v, h1, h2.mono hs hm, h3⟩⟩
theorem RowsF.mono {w w' : World} {F F' : Nat → Prop} {xs : List (List AV)} {arr : Array Value} (h : RowsF w F xs arr) (hm : Mono w F w' F') : RowsF w' F' xs arr :=
  fun q u hq => let ⟨v, h1, h2⟩ := h q u hq; ⟨v, h1, h2.mono hm⟩
/-- An object whose block is not turned, nor frozen. -/
theorem ObjOk.mono {C : Ctx} {w w' : World} {σ σ' : Sig} {F F' : Nat → Prop} {id : Nat} {o : AObj} (h : ObjOk C w σ F id o) (hs : Sub σ σ') (hm : Mono w F w' F')
    (hb : ∀ g, Owns σ id o g → w'.heap[g]? = w.heap[g]? ∧ ¬ F' g) : ObjOk C w' σ' F' id o := by
  cases o with
  | box cs =>
    obtain ⟨ℓ, g, t, arr, h1, h2, h3, h4, h5⟩ := h
    have hb := hb g ⟨ℓ, h1, h2⟩
    exact ⟨ℓ, g, t, arr, hs _ _ h1, h2, hb.1.trans h3, h4.mono hs hm, hb.2, h5.2⟩
  | row fl es mc xs =>
    obtain ⟨ℓ, h1, h2, h3, h4, h5, h6, h7, h8⟩ := h
    refine ⟨ℓ, hs _ _ h1, h2, h3, h4, h5, h6, h7, fun h0 => ?_⟩
    obtain ⟨g, t, arr, g1, g2, g3, g4, g5⟩ := h8 h0
    have hb := hb g ⟨ℓ, h1, g1, h0⟩
    exact ⟨g, t, arr, g1, hb.1.trans g2, g3, g4.mono (hm.ff _), hb.2, g5.2⟩
  | frow fl es xs =>
    obtain ⟨ℓ, h1, h2, h3, h4⟩ := h
    exact ⟨ℓ, hs _ _ h1, h2, h3, h4.mono hm⟩
  | dead => trivial
theorem Owns.sub {C : Ctx} {w : World} {σ σ' : Sig} {F : Nat → Prop} {id : Nat} {o : AObj} {g : Nat} (h : ObjOk C w σ F id o) (hs : Sub σ σ') (hg : Owns σ' id o g) : Owns σ id o g := by
  cases o with
  | box cs =>
    obtain ⟨ℓ, g', t, arr, h1, h2, h3, _, h5⟩ := h
    obtain ⟨ℓ', h1', h2'⟩ := hg
    rw [hs _ _ h1] at h1'; obtain rfl := Option.some.inj h1'
    exact ⟨ℓ, h1, h2'⟩
  | row fl es mc xs =>
    obtain ⟨ℓ, h1, _⟩ := h
    obtain ⟨ℓ', h1', h2', h0⟩ := hg
    rw [hs _ _ h1] at h1'; obtain rfl := Option.some.inj h1'
    exact ⟨ℓ, h1, h2', h0⟩
  | frow => exact hg.elim
  | dead => exact hg.elim

/-- The one law of steps: objects of T are turned, all else stays. -/
theorem Inv.go {C : Ctx} {w w' : World} {σ σ' : Sig} {F F' : Nat → Prop} {m m' : Mem} (h : Inv C w σ F m) (B : Nat → Prop) (T : Nat → Prop)
    (ht : Turns w w' B) (hB : ∀ k, B k → Ours C F k) (hm : ∀ k, F k → F' k) (hs : Sub σ σ')
    (hF : ∀ k, F' k → F k ∨ (k < w'.heap.size ∧ (k ∈ C.L0 ∨ C.w0.heap.size ≤ k)))
    (hother : ∀ id, ¬ T id → m' id = m id)
    (hfar : ∀ id o g, ¬ T id → m id = some o → Owns σ id o g → ¬ B g ∧ ¬ F' g)
    (hobj : ∀ id o, T id → m' id = some o → ObjOk C w' σ' F' id o)
    (hap : ∀ id id' o o' g, T id → m' id = some o → m' id' = some o' → Owns σ' id o g → Owns σ' id' o' g → id = id') : Inv C w' σ' F' m' := by
  have hmono : Mono w F w' F' := fun k hk => ⟨hm k hk, ht.block k (h.fnew k hk).1 (fun hb => (hB k hb).1 hk)⟩
  refine ⟨⟨ht.os.trans h.kept.os, ht.tape.trans h.kept.tape, ht.output.trans h.kept.output, Nat.le_trans h.kept.size ht.size, fun k hk hl => ?_⟩, fun k hk => ?_, fun k hk => hm k (h.fold k hk), fun id o ho => ?_, fun id id' o o' g ho ho' hg hg' => ?_⟩
  · refine (ht.block k (Nat.lt_of_lt_of_le hk h.kept.size) (fun hb => ?_)).trans (h.kept.block k hk hl)
    have := (hB k hb).2.resolve_left hl
    omega
  · rcases hF k hk with hk' | ⟨h1, h2⟩
    · exact ⟨Nat.lt_of_lt_of_le (h.fnew k hk').1 ht.size, (h.fnew k hk').2⟩
    · exact ⟨h1, .inr h2⟩
  · by_cases hT : T id
    · exact hobj id o hT ho
    · rw [hother id hT] at ho
      exact (h.objs id o ho).mono hs hmono (fun g hg => ⟨ht.block g (hg.lt (h.objs id o ho)).1 (hfar id o g hT ho hg).1, (hfar id o g hT ho hg).2⟩)
  · by_cases hT : T id
    · exact hap id id' o o' g hT ho ho' hg hg'
    · by_cases hT' : T id'
      · exact (hap id' id o' o g hT' ho' ho hg' hg).symm
      · rw [hother id hT] at ho
        rw [hother id' hT'] at ho'
        exact h.apart id id' o o' g ho ho' (Owns.sub (h.objs id o ho) hs hg) (Owns.sub (h.objs id' o' ho') hs hg')
end Go.Eng
