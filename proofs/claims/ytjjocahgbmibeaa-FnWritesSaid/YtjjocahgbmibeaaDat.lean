/- Values of the program as plain data, and how the machine bears them. -/
import Derived.Test.YtjjocahgbmibeaaRds
namespace Go.Proofs.Ytjjocahgbmibeaa
open Go.Eng
structure Pr where
  k : Int
  v : Int
  deriving DecidableEq, Inhabited
structure Ms where
  op : Int
  k : Int
  v : Int
  deriving DecidableEq, Inhabited
inductive Tr where
  | mk (leaf : Bool) (ps : List Pr) (cs : List Int) (ks : List Tr) (bs : List Ms)
  deriving Inhabited
def Tr.leaf : Tr → Bool | .mk l _ _ _ _ => l
def Tr.ps : Tr → List Pr | .mk _ p _ _ _ => p
def Tr.cs : Tr → List Int | .mk _ _ c _ _ => c
def Tr.ks : Tr → List Tr | .mk _ _ _ k _ => k
def Tr.bs : Tr → List Ms | .mk _ _ _ _ b => b
structure Su where
  ver : Int
  root : Int
  deriving DecidableEq, Inhabited
structure Wr where
  at_ : Int
  text : ByteArray
  sup : Su
  deriving Inhabited
structure Dk where
  pages : List ByteArray
  sups : List Su
  deriving Inhabited
abbrev i64 (n : Int) : AV := .i .i64 n
def Ic (n : Int) : List AV := [.i .i64 n]
def Bc (n : UInt8) : List AV := [.i .u8 (n.toNat : Int)]
def Oc (b : Bool) : List AV := [.b b]
def Sc (s : ByteArray) : List AV := [.s s]
def Pr.c (p : Pr) : List AV := [.i .i64 p.k, .i .i64 p.v]
def Ms.c (m : Ms) : List AV := [.i .i64 m.op, .i .i64 m.k, .i .i64 m.v]
def Su.c (s : Su) : List AV := [.i .i64 s.ver, .i .i64 s.root]
def Wr.c (w : Wr) : List AV := [.i .i64 w.at_, .s w.text, .i .i64 w.sup.ver, .i .i64 w.sup.root]
mutual
def Tr.c : Tr → List AV
  | .mk l ps cs ks bs => [.b l, .fro true 2 (ps.map Pr.c), .fro true 1 (cs.map Ic), .fro false 5 (Tr.cL ks), .fro true 3 (bs.map Ms.c)]
def Tr.cL : List Tr → List (List AV)
  | [] => []
  | k :: ks => Tr.c k :: Tr.cL ks
end
theorem Tr.cL_eq : ∀ ks, Tr.cL ks = ks.map Tr.c
  | [] => rfl
  | k :: ks => by rw [Tr.cL, Tr.cL_eq ks]; rfl
/-- A tree's cells, laid open. -/
def Tr.e (t : Tr) : List AV := [.b t.leaf, .fro true 2 (t.ps.map Pr.c), .fro true 1 (t.cs.map Ic), .fro false 5 (t.ks.map Tr.c), .fro true 3 (t.bs.map Ms.c)]
theorem Tr.c_e : Tr.c = Tr.e := by
  funext t
  cases t with
  | mk l ps cs ks bs => rw [Tr.c, Tr.cL_eq]; rfl
instance rw_tr (ks : List Tr) : Rw (ks.map Tr.c) ks Tr.e := ⟨by rw [Tr.c_e]⟩
instance rw1_Pr (p : Pr) : Rw [Pr.c p] [p] Pr.c := ⟨rfl⟩
instance rw1_Ms (p : Ms) : Rw [Ms.c p] [p] Ms.c := ⟨rfl⟩
instance rw1_Ic (p : Int) : Rw [Ic p] [p] Ic := ⟨rfl⟩
instance rw1_Bc (p : UInt8) : Rw [Bc p] [p] Bc := ⟨rfl⟩
instance rw1_Oc (p : Bool) : Rw [Oc p] [p] Oc := ⟨rfl⟩
instance rw1_Tr (p : Tr) : Rw [Tr.e p] [p] Tr.e := ⟨rfl⟩
instance rw1_Su (p : Su) : Rw [Su.c p] [p] Su.c := ⟨rfl⟩
instance rw1_Wr (p : Wr) : Rw [Wr.c p] [p] Wr.c := ⟨rfl⟩
instance rwl_Pr (a b : Int) : Rw [[.i .i64 a, .i .i64 b]] [(⟨a, b⟩ : Pr)] Pr.c := ⟨rfl⟩
instance rwl_Ms (a b c : Int) : Rw [[.i .i64 a, .i .i64 b, .i .i64 c]] [(⟨a, b, c⟩ : Ms)] Ms.c := ⟨rfl⟩
instance rwl_Ic (a : Int) : Rw [[.i .i64 a]] [a] Ic := ⟨rfl⟩
instance rwl_Oc (a : Bool) : Rw [[.b a]] [a] Oc := ⟨rfl⟩
instance {n mem} (p : Pr) : ImpC n p.c mem p.c mem n := ⟨[], rfl, rfl⟩
instance {n mem} (p : Ms) : ImpC n p.c mem p.c mem n := ⟨[], rfl, rfl⟩
instance {n mem} (p : Su) : ImpC n p.c mem p.c mem n := ⟨[], rfl, rfl⟩
instance {n mem} (p : Wr) : ImpC n p.c mem p.c mem n := ⟨[], rfl, rfl⟩
instance {n mem} (p : Tr) : ImpC n p.e mem p.e mem n := ⟨[], rfl, rfl⟩
mutual
/-- How great a tree is. -/
def Tr.sz : Tr → Nat
  | .mk _ ps cs ks bs => 1 + ps.length + cs.length + bs.length + Tr.szL ks
def Tr.szL : List Tr → Nat
  | [] => 0
  | k :: ks => Tr.sz k + Tr.szL ks
end
theorem Tr.sz_eq (t : Tr) : t.sz = 1 + t.ps.length + t.cs.length + t.bs.length + Tr.szL t.ks := by cases t; rfl
theorem Tr.sz_pos (t : Tr) : 0 < t.sz := by rw [Tr.sz_eq]; omega
theorem Tr.szL_len : ∀ ks : List Tr, ks.length ≤ Tr.szL ks
  | [] => Nat.le_refl _
  | k :: ks => by have := Tr.szL_len ks; have := k.sz_pos; simp [Tr.szL]; omega
theorem Tr.szL_mem : ∀ {ks : List Tr} {k : Tr}, k ∈ ks → k.sz ≤ Tr.szL ks
  | k' :: ks, k, h => by
    rcases List.mem_cons.1 h with rfl | h
    · simp [Tr.szL]
    · have := Tr.szL_mem h; simp [Tr.szL]; omega
theorem Tr.szL_app : ∀ a b : List Tr, Tr.szL (a ++ b) = Tr.szL a + Tr.szL b
  | [], b => by simp [Tr.szL]
  | k :: a, b => by have := Tr.szL_app a b; simp [Tr.szL]; omega
theorem Tr.kid_sz {t k : Tr} (h : k ∈ t.ks) : k.sz < t.sz := by have := Tr.szL_mem h; rw [t.sz_eq]; omega
/-- What a tree's size says of its parts. -/
theorem Tr.lens {t : Tr} {n : Nat} (h : t.sz ≤ n) : t.ps.length ≤ n ∧ t.cs.length ≤ n ∧ t.ks.length ≤ n ∧ t.bs.length ≤ n := by
  have := Tr.szL_len t.ks; rw [t.sz_eq] at h; omega
/-- The cursor of the draws. -/
structure Cu where
  b : List UInt8
  i : Int
  h : Int
def Cu.c (c : Cu) : List AV := [.fro true 1 (c.b.map Bc), .i .i64 c.i, .i .i64 c.h]
def Cu.ok (c : Cu) : Prop := 0 ≤ c.i ∧ c.i ≤ c.b.length ∧ c.b.length ≤ 1048576
instance {n mem} (c : Cu) : ImpC n c.c mem c.c mem n := ⟨[], rfl, rfl⟩
instance rwn_Ic : Rw ([] : List (List AV)) ([] : List Int) Ic := ⟨rfl⟩
instance (priority := low) rwc_Ic (a : Int) (xs : List (List AV)) (l : List Int) [h : Rw xs l Ic] : Rw ([.i .i64 a] :: xs) (a :: l) Ic := ⟨by rw [h.eq]; rfl⟩
theorem drop_at {α : Type} {l : List α} {n : Nat} {a : α} (h : l[n]? = some a) : l.drop n = a :: l.drop (n + 1) := by
  obtain ⟨hn, rfl⟩ := List.getElem?_eq_some_iff.1 h
  exact List.drop_eq_getElem_cons hn
theorem last_at {α : Type} {l pre post : List α} (hc : l = pre ++ post) (h : (pre.length : Int) > 0) : ∃ p, pre.getLast? = some p ∧ l[((pre.length : Int) - 1).toNat]? = some p := by
  have h0 : pre.length - 1 < pre.length := by omega
  refine ⟨pre[pre.length - 1], by rw [List.getLast?_eq_getElem?, List.getElem?_eq_getElem h0], ?_⟩
  rw [show ((pre.length : Int) - 1).toNat = pre.length - 1 by omega, hc, List.getElem?_append_left h0, List.getElem?_eq_getElem h0]
theorem getD_at {α : Type} {l : List α} {n : Nat} (h : n < l.length) : l[n]? = some l[n] := List.getElem?_eq_getElem h
end Go.Proofs.Ytjjocahgbmibeaa
