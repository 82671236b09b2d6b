/- slices.Insert of one pair as a law of the machine. -/
import Derived.Test.YtjjocahgbmibeaaExt2
import Derived.Test.YtjjocahgbmibeaaRds
namespace Go.Proofs.Ytjjocahgbmibeaa.Ext
open Go.RowKit Go.Eng
set_option linter.unusedVariables false
set_option linter.unusedSimpArgs false
/-- The value that a number stands for. -/
def val : AV → Value
  | .i k n => .int k n
  | _ => .bool false
def flat (xs : List Pr) : List AV := (xs.map Pr.c).flatten
theorem flat_cons (p : Pr) (xs : List Pr) : flat (p :: xs) = .i .i64 p.k :: .i .i64 p.v :: flat xs := rfl
theorem flat_len : ∀ xs : List Pr, (flat xs).length = xs.length * 2
  | [] => rfl
  | p :: xs => by rw [flat_cons, List.length_cons, List.length_cons, flat_len xs, List.length_cons]; omega
theorem flat_app (a b : List Pr) : flat (a ++ b) = flat a ++ flat b := by simp [flat]
theorem flat_take : ∀ (i : Nat) (xs : List Pr), (flat xs).take (i * 2) = flat (xs.take i)
  | 0, xs => by simp [flat]
  | i + 1, [] => by simp [flat]
  | i + 1, p :: xs => by rw [show (i + 1) * 2 = i * 2 + 1 + 1 by omega, flat_cons, List.take_succ_cons, List.take_succ_cons, flat_take i xs, List.take_succ_cons, flat_cons]
theorem flat_drop : ∀ (i : Nat) (xs : List Pr), (flat xs).drop (i * 2) = flat (xs.drop i)
  | 0, xs => by simp [flat]
  | i + 1, [] => by simp [flat]
  | i + 1, p :: xs => by rw [show (i + 1) * 2 = i * 2 + 1 + 1 by omega, flat_cons, List.drop_succ_cons, List.drop_succ_cons, flat_drop i xs, List.drop_succ_cons]
theorem flat_int : ∀ (xs : List Pr) (u : AV), u ∈ flat xs → ∃ k n, u = .i k n
  | [], u, h => by simp [flat] at h
  | p :: xs, u, h => by
    rw [flat_cons] at h
    rcases List.mem_cons.1 h with rfl | h
    · exact ⟨_, _, rfl⟩
    · rcases List.mem_cons.1 h with rfl | h
      · exact ⟨_, _, rfl⟩
      · exact flat_int xs u h
theorem val_of {w : World} {G : Nat → Prop} {u : AV} {v : Value} (hu : ∃ k n, u = .i k n) (h : RelF w G u v) : v = val u := by
  obtain ⟨k, n, rfl⟩ := hu
  cases h; rfl
theorem of_val {w : World} {G : Nat → Prop} {u : AV} (hu : ∃ k n, u = .i k n) : RelF w G u (val u) := by
  obtain ⟨k, n, rfl⟩ := hu
  exact .i
theorem vals_of {w : World} {G : Nat → Prop} {l : List AV} {arr : Array Value} (hall : ∀ u, u ∈ l → ∃ k n, u = .i k n) (hr : ∀ (q : Nat) u, l[q]? = some u → ∃ v, arr[q]? = some v ∧ RelF w G u v) : arr.toList.take l.length = l.map val := by
  apply List.ext_getElem?
  intro q
  rw [List.getElem?_take, List.getElem?_map]
  by_cases hq : q < l.length
  · rw [if_pos hq]
    have e : l[q]? = some l[q] := List.getElem?_eq_getElem hq
    obtain ⟨v, hv, hrel⟩ := hr q _ e
    rw [e, Array.getElem?_toList, hv, val_of (hall _ (List.getElem_mem hq)) hrel]; rfl
  · rw [if_neg hq, List.getElem?_eq_none (by omega)]; rfl
theorem ins_sound {mc : Nat} (xs : List Pr) (p : Pr) (i : Nat) (hlt : i < xs.length) (hbig : xs.length < 1000000) :
    FnSound Try.prog [true, false, false] 158 [.own true 2 mc (xs.map Pr.c), .i .i64 (i : Int), .fro true 2 [Pr.c p]] (.own true 2 0 ((xs.take i ++ p :: xs.drop i).map Pr.c)) [.junk] := by
  refine ⟨?_, fun w F vs L hb hnd hL hF => ?_⟩
  · have h := reads158
    simp only [readFn, Option.bind_eq_some_iff] at h
    obtain ⟨c, hc, _⟩ := h
    exact ⟨_, c, Try.func158, by kernel_rfl, hc⟩
  · generalize hx : xs.map Pr.c = rows at hb
    have hlen : rows.length = xs.length := by rw [← hx, List.length_map]
    have hfl : rows.flatten = flat xs := by rw [← hx]; rfl
    cases hb with
    | cons h1 hb =>
    cases hb with
    | cons h2 hb =>
    cases hb with
    | cons h3 hb =>
    cases hb with
    | nil =>
    cases h2 with
    | c h2 =>
    cases h2 with
    | fz h2 =>
    cases h2 with
    | i =>
    cases h3 with
    | c h3 =>
    cases h3 with
    | fz h3 =>
    cases h3 with
    | fro vs' hes' hc' hl' hA' hv' =>
    rename_i A2 c2
    obtain ⟨ad, rfl, hFad, hcell⟩ := hA' (by simp)
    have hnews : vs' = (flat [p]).map val := by
      apply List.ext_getElem?
      intro q
      rw [List.getElem?_map]
      by_cases hq : q < (flat [p]).length
      · have e : (flat [p])[q]? = some (flat [p])[q] := List.getElem?_eq_getElem hq
        have hq' : q < vs'.length := by rw [hl']; exact hq
        have e' : vs'[q]? = some vs'[q] := List.getElem?_eq_getElem hq'
        rw [e, e', val_of (flat_int [p] _ (List.getElem_mem hq)) (hv' q _ _ e e')]; rfl
      · rw [List.getElem?_eq_none (by rw [hl']; exact Nat.le_of_not_lt hq), List.getElem?_eq_none (Nat.le_of_not_lt hq)]; rfl
    cases h1 with
    | c h1 =>
    cases h1 with
    | fz h => cases h
    | ownE => simp at hlen; omega
    | own hh hcs hnc hmc hcm h0 hes hrows =>
    rename_i g t c arr
    have hgF : ¬ F g := (hL g (by simp)).1
    have hgl : g < w.heap.size := blk_lt hh
    have ht := vals_of (w := w) (l := rows.flatten) (by rw [hfl]; exact flat_int xs) hrows
    rw [hfl, flat_len] at ht
    have hone : ∀ (ys : List Pr) (u : Value), u ∈ (flat ys).map val → u.oneCell' = true := fun ys u hu => by
      obtain ⟨a, ha, rfl⟩ := List.mem_map.1 hu
      obtain ⟨k, n, rfl⟩ := flat_int ys a ha
      rfl
    have hcells : ((flat xs).map val).take (i * 2) ++ (flat [p]).map val ++ ((flat xs).map val).drop (i * 2) = (flat (xs.take i ++ p :: xs.drop i)).map val := by
      rw [← List.map_take, ← List.map_drop, flat_take, flat_drop, ← List.map_append, ← List.map_append, ← flat_app, ← flat_app, List.append_assoc]; rfl
    have key : Calls Try.prog 158 #[.slice (some ⟨g, 0, none⟩) xs.length c, .int .i64 (i : Int), .slice (some ad) 1 c2] w (InsPost w g xs.length ((flat (xs.take i ++ p :: xs.drop i)).map val)) := by
      rw [← hcells]
      have a1 : ((flat xs).map val).length = xs.length * 2 := by rw [List.length_map, flat_len]
      have a2 : ((flat [p]).map val).length = 2 := rfl
      have a3 : ∀ j u, ((flat [p]).map val)[j]? = some u → w.cell? (ad.add j) = some u := fun j u hj => hcell j u (by rw [hnews]; exact hj)
      have a4 : 1 ≤ c2 := hc'
      rw [hlen] at hnc
      rcases Nat.lt_or_ge c (xs.length + 1) with hfull | hroom
      · exact ins_anew hh hcs hnc hlt hfull hbig a1 ht (hone xs) a2 (hone [p]) a3 (hF _ hFad) a4
      · exact ins_room hh hcs hcm hlt hroom hbig a1 ht (hone xs) a2 (hone [p]) a3 (fun e => hgF (e ▸ hFad)) a4
    rw [hlen]
    refine Calls.mono key ?_
    rintro e w' ⟨g', c', t', arr', rfl, hh', hcs', hn', hcm', ht', hg', hk⟩
    refine ⟨_, rfl, F, [g'], [], by simpa using hk, fun _ h => h, fun k hk' => ⟨Nat.lt_of_lt_of_le (hF k hk') hk.size, .inl hk'⟩, ?_, .cons .junk .nil, by simp, fun k hk' => ?_⟩
    · have hlen' : ((xs.take i ++ p :: xs.drop i).map Pr.c).length = xs.length + 1 := by
        simp; omega
      rw [← hlen']
      refine .v (.c (.own hh' hcs' (by rw [hlen']; exact hn') (Nat.zero_le _) hcm' (by omega) (fun x hx => ?_) (fun q u hu => ?_)))
      · obtain ⟨a, _, rfl⟩ := List.mem_map.1 hx; rfl
      · have hu' : (flat (xs.take i ++ p :: xs.drop i))[q]? = some u := hu
        have hm := List.mem_of_getElem? hu'
        refine ⟨val u, ?_, of_val (flat_int _ u hm)⟩
        have e1 : ((flat (xs.take i ++ p :: xs.drop i)).map val)[q]? = some (val u) := by rw [List.getElem?_map, hu']; rfl
        rw [← ht', List.getElem?_take] at e1
        split at e1
        · rwa [Array.getElem?_toList] at e1
        · cases e1
    · have : k = g' := by simpa using hk'
      subst this
      refine ⟨fun hf => ?_, blk_lt hh', ?_⟩
      · rcases hg' with rfl | q
        · exact hgF hf
        · have := hF _ hf; omega
      · rcases hg' with rfl | q
        · exact .inl (by simp)
        · exact .inr q
end Go.Proofs.Ytjjocahgbmibeaa.Ext
