/- MsgOk of the program and of the reference answer the same of every message: no conditions. -/
import Derived.Test.YtomeiaphaimjoaaOpnFnExactMsgOk
import Derived.Test.YtomeiaphaimjoaaPFnExactMsgOkx
namespace Go.Proofs.Ytomeiaphaimjoaa.Pure
open Go.RowKit Go.Proofs.Ytomeiaphaimjoaa.PFnExactMsgOk Go.Proofs.YtomeiaphaimjoaaW.PrintWords Go.Proofs.YtomeiaphaimjoaaW.PrintLast Go.Proofs.YtomeiaphaimjoaaW.PrintMore Go.Proofs.Ytomeiaphaimjoaa.OpnFnExactMsgOk

theorem w64 {x : Int} (h0 : -9223372036854775808 ≤ x) (h1 : x ≤ 9223372036854775807) : wrap64 x = x := by
  unfold wrap64
  omega

theorem wf_i64 {a : Int} (h : (Lit.int .i64 a).wf = true) : -9223372036854775808 ≤ a ∧ a ≤ 9223372036854775807 := by
  simp [Lit.wf] at h
  have h1 : IntKind.min .i64 = -9223372036854775808 := by decide
  have h2 : IntKind.max .i64 = 9223372036854775807 := by decide
  omega


/-- From lo to hi. -/
def inR (a lo hi : Int) : Bool := decide (lo ≤ a) && decide (a ≤ hi)

theorem spec_in (a lo hi : Int) : spec_l1In.f a lo hi = some (inR a lo hi) := by
  unfold spec_l1In.f inR
  by_cases h : a ≥ lo
  · rw [if_pos h]; simp [h]
  · rw [if_neg h]; simp; omega

theorem spec_value (a : Int) : spec_l1Value.f a = some (inR a (-1000000000) 1000000000) := by
  unfold spec_l1Value.f
  rw [spec_in]; rfl

theorem impl_in (a lo hi : Int) : impl_within.f a lo hi = some (inR a lo hi) := by
  unfold impl_within.f inR
  by_cases h : a ≥ lo
  · rw [if_pos h]; simp [h]
  · rw [if_neg h]; simp; omega

theorem impl_key (a : Int) : impl_isKey.f a = some (inR a 0 999) := by
  unfold impl_isKey.f
  rw [impl_in]; rfl

theorem impl_num (a : Int) : impl_isNum.f a = some (inR a (-1000000000) 1000000000) := by
  unfold impl_isNum.f
  rw [impl_in]; rfl

/-- MsgOk, as the document says it. -/
def msgOk (op k v : Int) : Bool := inR op 1 4 && inR k 0 999 && inR v (-1000000000) 1000000000 && (decide (v = 0) || decide (op = 1) || decide (op = 3))

theorem spec_msgok (op k v : Int) : spec_MsgOk.f op k v = some (msgOk op k v) := by
  unfold spec_MsgOk.f msgOk
  simp only [spec_in, spec_value, Option.bind_some]
  cases inR op 1 4 <;> cases inR k 0 999 <;> cases inR v (-1000000000) 1000000000 <;> simp
  by_cases h : v = 0 <;> by_cases h1 : op = 1 <;> by_cases h3 : op = 3 <;> simp_all

theorem impl_msgok (op k v : Int) (n : Nat) (hn : 1 < n) : impl_MsgOk.f n op k v = some (msgOk op k v) := by
  obtain ⟨n, rfl⟩ : ∃ m, n = m + 1 := ⟨n - 1, by omega⟩
  unfold impl_MsgOk.f msgOk
  simp only [impl_key, impl_num, impl_MsgOk.j0, Option.bind_some]
  have e1 : inR 1 1 4 = true := rfl
  have e2 : inR 2 1 4 = true := rfl
  have e3 : inR 3 1 4 = true := rfl
  have e4 : inR 4 1 4 = true := rfl
  have e0 : inR 0 (-1000000000) 1000000000 = true := rfl
  by_cases h1 : op = 1
  · subst h1
    cases inR k 0 999 <;> simp [e1]
  · by_cases h3 : op = 3
    · subst h3
      cases inR k 0 999 <;> simp [e3]
    · by_cases h2 : op = 2
      · subst h2
        by_cases hv : v = 0
        · subst hv; cases inR k 0 999 <;> simp [e2, e0]
        · cases inR k 0 999 <;> simp [hv]
      · by_cases h4 : op = 4
        · subst h4
          by_cases hv : v = 0
          · subst hv; cases inR k 0 999 <;> simp [e4, e0]
          · cases inR k 0 999 <;> simp [hv]
        · have : inR op 1 4 = false := by
            unfold inR
            simp; omega
          simp [this, h1, h2, h3, h4]

theorem FnExactMsgOk : OpnFnExactMsgOk.Pure := by
  intro a b c _ _ _
  refine ⟨5, ?_⟩
  unfold laws_FnExactMsgOk.f
  simp only [laws_toMsg.f, Option.bind_some, spec_msgok, impl_msgok a b c 5 (by omega)]
  simp

end Go.Proofs.Ytomeiaphaimjoaa.Pure
