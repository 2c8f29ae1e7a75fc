/- Plain laws of a state's parts, of comparing rows, of tops and chains. -/
import Derived.Test.YthidakffgcjjiaaDeltaLaws
namespace Go.Proofs.Ythidakffgcjjiaa

theorem norm_norm (l : List At) : normAt (normAt l) = normAt l := norm_state (normAt_state l)
theorem sub_state {s t : List At} (h : IsState s) (hs : t.Sublist s) : IsState t := ⟨h.1.sublist hs, fun a ha => h.2 a (hs.subset ha)⟩
theorem rk_others {l : List At} (h : IsState l) {i : Nat} {x : At} (hx : l[i]? = some x) : rkAt (l.eraseIdx i) x.k = 0 := by
  rw [rkAt_state (sub_state h (List.eraseIdx_sublist l i))]
  have : look ((l.eraseIdx i).map kvp) x.k = none := look_none (fun p hp e => by
    obtain ⟨y, hy, rfl⟩ := List.mem_map.1 hp
    obtain ⟨j, hj, hy⟩ := List.mem_eraseIdx_iff_getElem?.1 hy
    obtain ⟨hi, hxi⟩ := List.getElem?_eq_some_iff.1 hx
    obtain ⟨hjl, hyj⟩ := List.getElem?_eq_some_iff.1 hy
    have hp := List.pairwise_iff_getElem.1 h.1
    simp only [kvp] at e
    rcases Nat.lt_or_ge i j with h1 | h1
    · have := Ky.lt_ne (hp i j hi hjl h1)
      rw [hxi, hyj] at this
      exact this e.symm
    · have := Ky.lt_ne (hp j i hjl hi (by omega))
      rw [hxi, hyj] at this
      exact this e)
  rw [this]; rfl
def ones (l : List At) : List (List At) := l.map (fun a => [a])
theorem ones_erase (l : List At) (i : Nat) : ((l.map (fun a => [a])).eraseIdx i).flatten = l.eraseIdx i := by
  induction l generalizing i with
  | nil => rfl
  | cons a l ih =>
    cases i with
    | zero => rw [List.map_cons, List.eraseIdx_cons_zero, List.eraseIdx_cons_zero, ones_flatten]
    | succ i => rw [List.map_cons, List.eraseIdx_cons_succ, List.eraseIdx_cons_succ, List.flatten_cons, ih]; rfl
theorem ones_spare {l : List At} (h : IsState l) {i : Nat} (hi : i < l.length) : spareAt (l.map (fun a => [a])) (l.map (fun a => [a])) i = false := by
  have hx : l[i]? = some l[i] := by simp
  have e : (l.map (fun a => [a])).getD i [] = [l[i]] := by rw [List.getD_eq_getElem?_getD, List.getElem?_map, hx]; rfl
  rw [spareAt, e, ones_erase, Bool.eq_false_iff]
  intro hl
  have := (leqAt_iff _ _).1 hl l[i].k
  rw [rk_others h hx, rkAt_one (h.2 _ (List.getElem_mem hi)), if_pos rfl] at this
  omega
theorem dp_irred (l : List At) : irredAt ((normAt l).map (fun a => [a])) = true := by
  unfold irredAt
  rw [List.all_eq_true]
  intro i hi
  have hi := List.mem_range.1 hi
  rw [List.length_map] at hi
  rw [ones_spare (normAt_state l) hi]; rfl
theorem need_none {ls : List (List At)} (h : ∀ i, i < ls.length → spareAt ls ls i = false) : ∀ k, k ≤ ls.length → needF ls k = ([], ls)
  | 0, _ => rfl
  | k + 1, hk => by
    rw [needF_succ, need_none h k (by omega), needStep]
    simp only [h k (by omega)]
    rfl
theorem dp_need (l : List At) : (needF ((normAt l).map (fun a => [a])) ((normAt l).map (fun a => [a])).length).1 = [] := by
  rw [need_none (fun i hi => ones_spare (normAt_state l) (by simpa using hi)) _ (Nat.le_refl _)]
theorem dp_one {l : List At} {k : Nat} {li : List At} (h : ((normAt l).map (fun a => [a]))[k]? = some li) : ((normAt li).length : Int) = 1 := by
  rw [List.getElem?_map] at h
  obtain ⟨x, hx, rfl⟩ := Option.map_eq_some_iff.1 h
  rw [norm_state (one_state ((normAt_state l).2 x (List.mem_of_getElem? hx)))]
  rfl
theorem dp_same (l : List At) : normAt (normAt (((normAt l).map (fun a => [a])).flatten)) = normAt l := by
  rw [ones_flatten, norm_norm, norm_norm]
/-- A state with one atom is not the join of two others. -/
theorem dp_join {b c : List At} (h1 : ((normAt (normAt (b ++ c))).length : Int) = 1) (h2 : ¬ normAt (normAt (b ++ c)) = normAt b) : normAt (normAt (b ++ c)) = normAt c := by
  rw [norm_norm] at *
  obtain ⟨x, hx⟩ : ∃ x, normAt (b ++ c) = [x] := by
    cases hn : normAt (b ++ c) with
    | nil => rw [hn] at h1; simp at h1
    | cons x t =>
      cases t with
      | nil => exact ⟨x, rfl⟩
      | cons y t => rw [hn] at h1; simp at h1; omega
  have hr : ∀ k, rkAt (b ++ c) k = rkAt [x] k := fun k => by rw [← rkAt_norm, hx]
  have hxr : x.right = true := (normAt_state (b ++ c)).2 x (by rw [hx]; simp)
  apply norm_ext
  intro k
  have hk := hr k
  rw [rkAt_append, rkAt_one hxr] at hk
  rw [rkAt_append]
  by_cases hb : rkAt b x.k = x.v.rank + 1
  · exfalso
    apply h2
    apply norm_ext
    intro j
    have hj := hr j
    rw [rkAt_append, rkAt_one hxr] at hj
    rw [rkAt_append]
    by_cases hjk : x.k = j
    · subst hjk; rw [if_pos rfl] at hj; omega
    · rw [if_neg hjk] at hj; omega
  · by_cases hjk : x.k = k
    · subst hjk; rw [if_pos rfl] at hk; omega
    · rw [if_neg hjk] at hk; omega
end Go.Proofs.Ythidakffgcjjiaa
