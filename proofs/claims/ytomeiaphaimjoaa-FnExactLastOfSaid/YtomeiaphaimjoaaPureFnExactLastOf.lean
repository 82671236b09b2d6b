/- LastOf of the program and of the reference answer the same of every log, and leave it alone: no conditions. -/
import Derived.Test.YtomeiaphaimjoaaOpnFnExactLastOf
import Derived.Test.YtomeiaphaimjoaaPFnExactLastOfx
namespace Go.Proofs.Ytomeiaphaimjoaa.Pure
open Go.RowKit Go.Proofs.Ytomeiaphaimjoaa.PFnExactLastOf Go.Proofs.YtomeiaphaimjoaaW.PrintWords Go.Proofs.YtomeiaphaimjoaaW.PrintLast Go.Proofs.YtomeiaphaimjoaaW.PrintMore Go.Proofs.Ytomeiaphaimjoaa.OpnFnExactLastOf

theorem w64 {x : Int} (h0 : -9223372036854775808 ≤ x) (h1 : x ≤ 9223372036854775807) : wrap64 x = x := by
  unfold wrap64
  omega

theorem wf_i64 {a : Int} (h : (Lit.int .i64 a).wf = true) : -9223372036854775808 ≤ a ∧ a ≤ 9223372036854775807 := by
  simp [Lit.wf] at h
  have h1 : IntKind.min .i64 = -9223372036854775808 := by decide
  have h2 : IntKind.max .i64 = 9223372036854775807 := by decide
  omega


def cvEntry (x : S100) : S83 := (⟨x.f0, (⟨x.f1.f0, x.f1.f1, (⟨x.f1.f2.f0, x.f1.f2.f1, x.f1.f2.f2⟩ : S28)⟩ : S81)⟩ : S83)

theorem toEntryS_l0 (d : Nat) : ∀ (k : Nat) (x : List S100) (y : List S83) (i : Int), 0 ≤ i → i ≤ x.length → y.length = x.length → (x.length : Int) - i = d → d < k → x.length ≤ 140737488355328 → (∀ j : Nat, (j : Int) < i → y[j]? = (x.map cvEntry)[j]?) → laws_toEntryS.l0 k x y i = some (x.map cvEntry) := by
  induction d with
  | zero =>
    intro k x y i h0 h1 hy hd hk hx h
    obtain ⟨k, rfl⟩ : ∃ m, k = m + 1 := ⟨k - 1, by omega⟩
    simp only [laws_toEntryS.l0]; rw [if_neg (by omega)]
    congr 1
    apply List.ext_getElem?
    intro j
    by_cases hj : j < x.length
    · exact h j (by omega)
    · rw [List.getElem?_eq_none (by omega), List.getElem?_eq_none (by simp; omega)]
  | succ d ih =>
    intro k x y i h0 h1 hy hd hk hx h
    obtain ⟨k, rfl⟩ : ∃ m, k = m + 1 := ⟨k - 1, by omega⟩
    simp only [laws_toEntryS.l0]
    rw [if_pos (by omega), if_pos h0]
    simp only [laws_toEntry.f, laws_toCmd.f, laws_toMsg.f, Option.bind_some]
    rw [if_pos (by omega), w64 (by omega) (by omega)]
    refine ih k x _ (i + 1) (by omega) (by omega) (by simpa using hy) (by omega) (by omega) hx (fun j hj => ?_)
    by_cases he : (j : Int) = i
    · have hj2 : (i : Int).toNat = j := by omega
      rw [hj2, List.getElem?_set_self (by omega), List.getElem?_map, List.getElem?_eq_getElem (by omega)]
      simp only [Option.map_some, rd_T100, hj2, List.getD_eq_getElem?_getD]
      rw [List.getElem?_eq_getElem (by omega)]
      rfl
    · rw [← h j (by omega), List.getElem?_set_ne (by omega)]

theorem toEntryS_all (x : List S100) (hx : x.length ≤ 1048576) (k : Nat) (hk : x.length < k) : laws_toEntryS.f k x = some (x.map cvEntry) := by
  unfold laws_toEntryS.f
  rw [if_pos (by omega), if_pos (by omega)]
  exact toEntryS_l0 x.length k x _ 0 (by omega) (by omega) (by simp) (by omega) (by omega) (by omega) (fun j hj => by omega)

theorem eqEntryS_l0 (d : Nat) : ∀ (k : Nat) (x : List S83) (i : Int), 0 ≤ i → i ≤ x.length → (x.length : Int) - i = d → d < k → x.length ≤ 140737488355328 → laws_eqEntryS.l0 k x x i = some true := by
  induction d with
  | zero =>
    intro k x i h0 h1 hd hk hx
    obtain ⟨k, rfl⟩ : ∃ m, k = m + 1 := ⟨k - 1, by omega⟩
    simp only [laws_eqEntryS.l0]; rw [if_neg (by omega)]
  | succ d ih =>
    intro k x i h0 h1 hd hk hx
    obtain ⟨k, rfl⟩ : ∃ m, k = m + 1 := ⟨k - 1, by omega⟩
    simp only [laws_eqEntryS.l0]
    rw [if_pos (by omega), if_pos h0, if_pos (by omega)]
    simp only [laws_eqEntry.f, laws_eqCmd.f, laws_eqMsg.f, Option.bind_some, if_true]
    rw [w64 (by omega) (by omega)]
    exact ih k x (i + 1) (by omega) (by omega) (by omega) (by omega) hx

theorem eqEntryS_self (x : List S83) (hx : x.length ≤ 140737488355328) (k : Nat) (hk : x.length < k) : laws_eqEntryS.f k x x = some true := by
  unfold laws_eqEntryS.f
  rw [if_pos rfl]
  exact eqEntryS_l0 x.length k x 0 (by omega) (by omega) (by omega) (by omega) hx

theorem toLog_all (b t : Int) (l : List S100) (hl : l.length ≤ 1048576) (k : Nat) (hk : l.length < k) : laws_toLog.f k b t l = some (b, t, l.map cvEntry) := by
  unfold laws_toLog.f
  rw [toEntryS_all l hl k hk]
  rfl

theorem eqLog_self (b t : Int) (l : List S83) (hl : l.length ≤ 140737488355328) (k : Nat) (hk : l.length < k) : laws_eqLog.f k b t l b t l = some true := by
  unfold laws_eqLog.f
  simp only [if_true]
  rw [eqEntryS_self l hl k hk]
  rfl

theorem szLog_all (b t : Int) (l : List S100) (hl : l.length * 48 ≤ 140737488351232) : laws_szLog.f b t l 1048576 = some (if (1048576 : Int) - l.length < 0 then (-1 : Int) else (1048576 : Int) - l.length) := by
  unfold laws_szLog.f laws_szEntryS.f
  rw [w64 (by omega) (by omega)]
  by_cases h : (1048576 : Int) - l.length < 0
  · rw [if_pos h, if_pos h]; rfl
  · rw [if_neg h, if_neg h]
    simp only [Option.bind_some]
    rw [if_neg h]

/-- LastOf, as the document says it. -/
def lastOf (b t : Int) (l : List S83) : Int × Int := if l.length = 0 then (b, t) else (wrap64 (b + l.length), (rd_T83 l ((l.length : Int) - 1)).f0)

theorem spec_lastof (b t : Int) (l : List S83) (hl : l.length ≤ 140737488355328) : spec_LastOf.f b t l = some (lastOf b t l) := by
  unfold spec_LastOf.f lastOf
  by_cases h : l.length = 0
  · rw [if_pos (by omega), if_pos h]
  · rw [if_neg (by omega), if_neg h, w64 (x := (l.length : Int) - 1) (by omega) (by omega), if_pos (by omega), if_pos (by omega)]

theorem impl_lastof (b t : Int) (l : List S83) (hl : l.length ≤ 140737488355328) : impl_LastOf.f b t l = some (lastOf b t l) := by
  unfold impl_LastOf.f impl_lastIndex.f lastOf
  by_cases h : l.length = 0
  · rw [if_pos (by omega), if_pos h]
  · rw [if_neg (by omega), if_neg h]
    simp only [Option.bind_some]
    rw [w64 (x := (l.length : Int) - 1) (by omega) (by omega), if_pos (by omega), if_pos (by omega)]

theorem FnExactLastOf : OpnFnExactLastOf.Pure := by
  intro b t l _ _ ⟨hl, _⟩
  refine ⟨l.length + 5, ?_⟩
  unfold laws_FnExactLastOf.f
  rw [szLog_all b t l hl]
  simp only [Option.bind_some]
  by_cases hb : (1048576 : Int) - l.length < 0
  · rw [if_pos hb]; rfl
  · rw [if_neg hb, if_neg hb, toLog_all b t l (by omega) _ (by omega)]
    have hm : (l.map cvEntry).length = l.length := List.length_map ..
    simp only [Option.bind_some, spec_lastof b t (l.map cvEntry) (by omega), impl_lastof b t (l.map cvEntry) (by omega), laws_FnExactLastOf.j0, bne_self_eq_false]
    simp only [if_true, Bool.false_eq_true, if_false, toLog_all b t l (by omega) (l.length + 4) (by omega), Option.bind_some, eqLog_self b t (l.map cvEntry) (by omega) (l.length + 4) (by omega)]

end Go.Proofs.Ytomeiaphaimjoaa.Pure
