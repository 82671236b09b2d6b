/- The arguments of the law FnExactTreeRange, as values of the printed kinds, and the pure statement that is left of it. A text of this session. -/
import Derived.Test.YtfnndcpaldkkoaaPFnExactTreeRangex18
import Derived.Test.YtfnndcpaldkkoaaPFnExactTreeRangewOpen
namespace Go.Proofs.Ytfnndcpaldkkoaa.OpnFnExactTreeRange
open Go.RowKit Go.Proofs.Ytfnndcpaldkkoaa.PFnExactTreeRange Go.Proofs.YtfnndcpaldkkoaaW.PrintWords Go.Proofs.YtfnndcpaldkkoaaOpen

def ok107 (y : S107) : Prop := (Lit.int .i64 y.f0).wf = true ∧ (Lit.int .i64 y.f1).wf = true
theorem o107 (n : Nat) : Opens Try.prog n 107 k107 ok107 :=
  Opens.imp (Opens.mono (opens_iso (fun (x : (Int) × (Int)) => (⟨x.1, x.2⟩ : S107)) (fun _ => rfl) (opens_struct Try.underlying107 (by kernel_rfl) (opens_field rfl (by kernel_rfl) (opens_int n Try.underlying3) (opens_last rfl (by kernel_rfl) (opens_int n Try.underlying3))))) (Nat.le_succ _)) (fun _ h => h)
def ok109 (y : S109) : Prop := (Lit.int .i64 y.f0).wf = true ∧ (Lit.int .i64 y.f1).wf = true ∧ (Lit.int .i64 y.f2).wf = true
theorem o109 (n : Nat) : Opens Try.prog n 109 k109 ok109 :=
  Opens.imp (Opens.mono (opens_iso (fun (x : (Int) × (Int) × (Int)) => (⟨x.1, x.2.1, x.2.2⟩ : S109)) (fun _ => rfl) (opens_struct Try.underlying109 (by kernel_rfl) (opens_field rfl (by kernel_rfl) (opens_int n Try.underlying3) (opens_field rfl (by kernel_rfl) (opens_int n Try.underlying3) (opens_last rfl (by kernel_rfl) (opens_int n Try.underlying3)))))) (Nat.le_succ _)) (fun _ h => h)
/-- What is known of a tree, of its kids p. -/
def okF27 (p : S27 → Prop) (y : S27) : Prop := True ∧ (y.f1.length * 16 ≤ 140737488351232 ∧ ∀ z4_ ∈ y.f1, ok107 z4_) ∧ (y.f2.length * 8 ≤ 140737488351232 ∧ ∀ z4_ ∈ y.f2, (Lit.int .i64 z4_).wf = true) ∧ (y.f3.length * 104 ≤ 140737488351232 ∧ ∀ z_ ∈ y.f3, p z_) ∧ (y.f4.length * 24 ≤ 140737488351232 ∧ ∀ z4_ ∈ y.f4, ok109 z4_)
def okN27 : Nat → S27 → Prop
  | 0, _ => False
  | n + 1, y => okF27 (okN27 n) y
def ok27 (y : S27) : Prop := ∃ n, okN27 n y
theorem oF27 (n : Nat) (d : Kd S27) (Ok : S27 → Prop) (hs : d.sz = 5) (h : Opens Try.prog n 27 d Ok) : Opens Try.prog (n + 1) 27 (F27 d) (okF27 Ok) :=
  Opens.imp (opens_iso (fun (x : (Bool) × (List (S107)) × (List (Int)) × (List (S27)) × (List (S109))) => (⟨x.1, x.2.1, x.2.2.1, x.2.2.2.1, x.2.2.2.2⟩ : S27)) (fun _ => rfl) (opens_struct Try.underlying27 (by first | kernel_rfl | rfl) (opens_field rfl (by first | kernel_rfl | rfl) (opens_bool n Try.underlying4) (opens_field rfl (by first | kernel_rfl | rfl) (Opens.mono (opens_slice (B := 16) Try.underlying22 (by kernel_rfl) (by kernel_rfl) (o107 n)) (Nat.le_succ _)) (opens_field rfl (by first | kernel_rfl | rfl) (Opens.mono (opens_slice (B := 8) Try.underlying23 (by kernel_rfl) (by kernel_rfl) (opens_int n Try.underlying3)) (Nat.le_succ _)) (opens_field rfl (by first | kernel_rfl | rfl) (Opens.mono (opens_slice (B := 104) Try.underlying24 (by first | (rw [hs]; kernel_rfl) | (rw [hs]; rfl)) (by kernel_rfl) h) (Nat.le_succ _)) (opens_last rfl (by first | kernel_rfl | rfl) (Opens.mono (opens_slice (B := 24) Try.underlying25 (by kernel_rfl) (by kernel_rfl) (o109 n)) (Nat.le_succ _))))))))) (fun _ h => h)
theorem okrec27 : ∀ (m : Nat) (x : S27), (Nat.rec (motive := fun _ => S27 → Prop) (fun _ => False) (fun _ Ok => okF27 Ok) m) x → okN27 m x
  | 0, _, h => h
  | m + 1, x, h => by
    have e : (Nat.rec (motive := fun _ => S27 → Prop) (fun _ => False) (fun _ Ok => okF27 Ok) m : S27 → Prop) = okN27 m := by
      clear h x
      induction m with
      | zero => rfl
      | succ m ih => funext y; show okF27 _ y = okF27 _ y; rw [ih]
    show okF27 (okN27 m) x
    rw [← e]
    exact h
theorem o27 (n : Nat) : Opens Try.prog n 27 k27 ok27 :=
  Opens.imp (opens_fix okF27 oF27 n) (fun x ⟨m, h⟩ => ⟨m, okrec27 m x h⟩)
theorem par0 (n : Nat) : Opens Try.prog n 27 (Kd.pair Kd.bool (Kd.pair (Kd.slice 107 k107) (Kd.pair (Kd.slice 3 (Kd.int .i64)) (Kd.pair (Kd.slice 27 k27) (Kd.slice 109 k109))))) (fun x => (True ∧ ((x.2.1.length * 16 ≤ 140737488351232 ∧ ∀ z5_ ∈ x.2.1, ok107 z5_) ∧ ((x.2.2.1.length * 8 ≤ 140737488351232 ∧ ∀ z7_ ∈ x.2.2.1, (Lit.int .i64 z7_).wf = true) ∧ ((x.2.2.2.1.length * 104 ≤ 140737488351232 ∧ ∀ z9_ ∈ x.2.2.2.1, ok27 z9_) ∧ (x.2.2.2.2.length * 24 ≤ 140737488351232 ∧ ∀ z9_ ∈ x.2.2.2.2, ok109 z9_)))))) :=
  Opens.imp (Opens.mono (opens_struct Try.underlying27 (by kernel_rfl) (opens_field rfl (by kernel_rfl) (opens_bool n Try.underlying4) (opens_field rfl (by kernel_rfl) (Opens.mono (opens_slice (B := 16) Try.underlying22 (by kernel_rfl) (by kernel_rfl) (o107 n)) (Nat.le_succ _)) (opens_field rfl (by kernel_rfl) (Opens.mono (opens_slice (B := 8) Try.underlying23 (by kernel_rfl) (by kernel_rfl) (opens_int n Try.underlying3)) (Nat.le_succ _)) (opens_field rfl (by kernel_rfl) (Opens.mono (opens_slice (B := 104) Try.underlying24 (by kernel_rfl) (by kernel_rfl) (o27 n)) (Nat.le_succ _)) (opens_last rfl (by kernel_rfl) (Opens.mono (opens_slice (B := 24) Try.underlying25 (by kernel_rfl) (by kernel_rfl) (o109 n)) (Nat.le_succ _)))))))) (Nat.le_succ _)) (fun _ h => h)

/-- The one pure statement that is left of the law. -/
def Pure : Prop := ∀ (a0_0 : Bool) (l0_1 : List (S107)) (l0_2 : List (Int)) (l0_3 : List (S27)) (l0_4 : List (S109)) (a1 : Int) (a2 : Int), (l0_1.length * 16 ≤ 140737488351232 ∧ ∀ z4_ ∈ l0_1, ok107 z4_) → (l0_2.length * 8 ≤ 140737488351232 ∧ ∀ z4_ ∈ l0_2, (Lit.int .i64 z4_).wf = true) → (l0_3.length * 104 ≤ 140737488351232 ∧ ∀ z4_ ∈ l0_3, ok27 z4_) → (l0_4.length * 24 ≤ 140737488351232 ∧ ∀ z4_ ∈ l0_4, ok109 z4_) → (Lit.int .i64 a1).wf = true → (Lit.int .i64 a2).wf = true → ∃ k, laws_FnExactTreeRange.f k a0_0 l0_1 l0_2 l0_3 l0_4 a1 a2 = some true

end Go.Proofs.Ytfnndcpaldkkoaa.OpnFnExactTreeRange
