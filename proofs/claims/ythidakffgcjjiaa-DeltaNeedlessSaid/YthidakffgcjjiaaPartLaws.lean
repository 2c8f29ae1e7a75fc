/- Plain laws of a state's parts, of comparing rows, of tops and chains. -/
import Derived.Test.YthidakffgcjjiaaDeltaLaws
namespace Go.Proofs.Ythidakffgcjjiaa

theorem norm_norm (l : List At) : normAt (normAt l) = normAt l := norm_state (normAt_state l)
theorem sub_state {s t : List At} (h : IsState s) (hs : t.Sublist s) : IsState t := ⟨h.1.sublist hs, fun a ha => h.2 a (hs.subset ha)⟩
theorem rk_others {l : List At} (h : IsState l) {i : Nat} {x : At} (hx : l[i]? = some x) : rkAt (l.eraseIdx i) x.k = 0 := by
  rw [rkAt_state (sub_state h (List.eraseIdx_sublist l i))]
  have : look ((l.eraseIdx i).map kvp) x.k = none := look_none (fun p hp e => by
    obtain ⟨y, hy, rfl⟩ := List.mem_map.1 hp
    obtain ⟨j, hj, hy⟩ := List.mem_eraseIdx_iff_getElem?.1 hy
    obtain ⟨hi, hxi⟩ := List.getElem?_eq_some_iff.1 hx
    obtain ⟨hjl, hyj⟩ := List.getElem?_eq_some_iff.1 hy
    have hp := List.pairwise_iff_getElem.1 h.1
    simp only [kvp] at e
    rcases Nat.lt_or_ge i j with h1 | h1
    · have := Ky.lt_ne (hp i j hi hjl h1)
      rw [hxi, hyj] at this
      exact this e.symm
    · have := Ky.lt_ne (hp j i hjl hi (by omega))
      rw [hxi, hyj] at this
      exact this e)
  rw [this]; rfl
def ones (l : List At) : List (List At) := l.map (fun a => [a])
theorem ones_erase (l : List At) (i : Nat) : ((l.map (fun a => [a])).eraseIdx i).flatten = l.eraseIdx i := by
  induction l generalizing i with
  | nil => rfl
  | cons a l ih =>
    cases i with
    | zero => rw [List.map_cons, List.eraseIdx_cons_zero, List.eraseIdx_cons_zero, ones_flatten]
    | succ i => rw [List.map_cons, List.eraseIdx_cons_succ, List.eraseIdx_cons_succ, List.flatten_cons, ih]; rfl
theorem ones_spare {l : List At} (h : IsState l) {i : Nat} (hi : i < l.length) : spareAt (l.map (fun a => [a])) (l.map (fun a => [a])) i = false := by
  have hx : l[i]? = some l[i] := by simp
  have e : (l.map (fun a => [a])).getD i [] = [l[i]] := by rw [List.getD_eq_getElem?_getD, List.getElem?_map, hx]; rfl
  rw [spareAt, e, ones_erase, Bool.eq_false_iff]
  intro hl
  have := (leqAt_iff _ _).1 hl l[i].k
  rw [rk_others h hx, rkAt_one (h.2 _ (List.getElem_mem hi)), if_pos rfl] at this
  omega
theorem dp_irred (l : List At) : irredAt ((normAt l).map (fun a => [a])) = true := by
  unfold irredAt
  rw [List.all_eq_true]
  intro i hi
  have hi := List.mem_range.1 hi
  rw [List.length_map] at hi
  rw [ones_spare (normAt_state l) hi]; rfl
theorem need_none {ls : List (List At)} (h : ∀ i, i < ls.length → spareAt ls ls i = false) : ∀ k, k ≤ ls.length → needF ls k = ([], ls)
  | 0, _ => rfl
  | k + 1, hk => by
    rw [needF_succ, need_none h k (by omega), needStep]
    simp only [h k (by omega)]
    rfl
theorem dp_need (l : List At) : (needF ((normAt l).map (fun a => [a])) ((normAt l).map (fun a => [a])).length).1 = [] := by
  rw [need_none (fun i hi => ones_spare (normAt_state l) (by simpa using hi)) _ (Nat.le_refl _)]
theorem dp_one {l : List At} {k : Nat} {li : List At} (h : ((normAt l).map (fun a => [a]))[k]? = some li) : ((normAt li).length : Int) = 1 := by
  rw [List.getElem?_map] at h
  obtain ⟨x, hx, rfl⟩ := Option.map_eq_some_iff.1 h
  rw [norm_state (one_state ((normAt_state l).2 x (List.mem_of_getElem? hx)))]
  rfl
theorem dp_same (l : List At) : normAt (normAt (((normAt l).map (fun a => [a])).flatten)) = normAt l := by
  rw [ones_flatten, norm_norm, norm_norm]
/-- A state with one atom is not the join of two others. -/
theorem dp_join {b c : List At} (h1 : ((normAt (normAt (b ++ c))).length : Int) = 1) (h2 : ¬ normAt (normAt (b ++ c)) = normAt b) : normAt (normAt (b ++ c)) = normAt c := by
  rw [norm_norm] at *
  obtain ⟨x, hx⟩ : ∃ x, normAt (b ++ c) = [x] := by
    cases hn : normAt (b ++ c) with
    | nil => rw [hn] at h1; simp at h1
    | cons x t =>
      cases t with
      | nil => exact ⟨x, rfl⟩
      | cons y t => rw [hn] at h1; simp at h1; omega
  have hr : ∀ k, rkAt (b ++ c) k = rkAt [x] k := fun k => by rw [← rkAt_norm, hx]
  have hxr : x.right = true := (normAt_state (b ++ c)).2 x (by rw [hx]; simp)
  apply norm_ext
  intro k
  have hk := hr k
  rw [rkAt_append, rkAt_one hxr] at hk
  rw [rkAt_append]
  by_cases hb : rkAt b x.k = x.v.rank + 1
  · exfalso
    apply h2
    apply norm_ext
    intro j
    have hj := hr j
    rw [rkAt_append, rkAt_one hxr] at hj
    rw [rkAt_append]
    by_cases hjk : x.k = j
    · subst hjk; rw [if_pos rfl] at hj; omega
    · rw [if_neg hjk] at hj; omega
  · by_cases hjk : x.k = k
    · subst hjk; rw [if_pos rfl] at hk; omega
    · rw [if_neg hjk] at hk; omega

/-! ### All rows but one, joined one by one -/
def woF (ls : List (List At)) (i k : Nat) : List At := (List.range k).foldl (fun d j => if j = i then d else normAt (d ++ ls.getD j [])) []
theorem woF_succ (ls : List (List At)) (i k : Nat) : woF ls i (k + 1) = if k = i then woF ls i k else normAt (woF ls i k ++ ls.getD k []) := by rw [woF, List.range_succ, List.foldl_append]; rfl
theorem wo_skip {ls : List (List At)} {i k : Nat} {d : List At} (h : d = woF ls i k) (hk : (k : Int) = (i : Int)) : d = woF ls i (k + 1) := by
  rw [woF_succ, if_pos (by omega)]; exact h
theorem wo_join {ls : List (List At)} {i k : Nat} {d li : List At} (h : d = woF ls i k) (hk : ¬ (k : Int) = (i : Int)) (hl : ls[k]? = some li) : normAt (d ++ li) = woF ls i (k + 1) := by
  rw [woF_succ, if_neg (by omega), ← h, List.getD_eq_getElem?_getD, hl]; rfl
theorem wo_state (ls : List (List At)) (i : Nat) : ∀ k, IsState (woF ls i k)
  | 0 => ⟨by simp [woF, Rising], fun a ha => by cases ha⟩
  | k + 1 => by
    rw [woF_succ]
    split
    · exact wo_state ls i k
    · exact normAt_state _
theorem rk_erase_snoc (l : List (List At)) (x : List At) (i : Nat) (q : Ky) : rkAt ((l ++ [x]).eraseIdx i).flatten q = if i = l.length then rkAt l.flatten q else max (rkAt (l.eraseIdx i).flatten q) (rkAt x q) := by
  induction l generalizing i with
  | nil =>
    cases i with
    | zero => rfl
    | succ i =>
      rw [if_neg (by simp)]
      simp only [List.nil_append, List.eraseIdx_cons_succ, List.eraseIdx_nil, List.flatten_cons, List.flatten_nil, List.append_nil, rkAt_nil]
      omega
  | cons y l ih =>
    cases i with
    | zero =>
      rw [if_neg (by simp)]
      simp only [List.cons_append, List.eraseIdx_cons_zero, List.flatten_append, List.flatten_cons, List.flatten_nil, List.append_nil, rkAt_append]
    | succ i =>
      simp only [List.cons_append, List.eraseIdx_cons_succ, List.flatten_cons, rkAt_append, ih, List.length_cons]
      by_cases h : i = l.length
      · rw [if_pos h, if_pos (by omega)]
      · rw [if_neg h, if_neg (by omega)]; omega
theorem rk_wo (ls : List (List At)) (i : Nat) (q : Ky) : ∀ k, k ≤ ls.length → rkAt (woF ls i k) q = rkAt ((ls.take k).eraseIdx i).flatten q
  | 0, _ => by simp [woF]
  | k + 1, h => by
    have ih := rk_wo ls i q k (by omega)
    have hx : ls[k]? = some ls[k] := by simp
    have hg : ls.getD k [] = ls[k] := by rw [List.getD_eq_getElem?_getD, hx]; rfl
    rw [woF_succ, List.take_add_one, hx, Option.toList_some, rk_erase_snoc, List.length_take, Nat.min_eq_left (by omega)]
    by_cases hk : k = i
    · rw [if_pos hk, if_pos hk.symm, ih]
      congr 2
      rw [List.eraseIdx_of_length_le (by rw [List.length_take]; omega)]
    · rw [if_neg hk, if_neg (fun e => hk e.symm), rkAt_norm, rkAt_append, ih, hg]
theorem wo_norm (ls : List (List At)) (i : Nat) : woF ls i ls.length = normAt (ls.eraseIdx i).flatten :=
  state_ext (wo_state ls i _) (normAt_state _) fun q => by rw [rk_wo ls i q _ (Nat.le_refl _), List.take_length, rkAt_norm]
theorem take_flat_mono (ls : List (List At)) (k : Nat) : ((ls.take k).flatten).length ≤ ((ls.take (k + 1)).flatten).length := by
  rw [List.take_add_one, List.flatten_append, List.length_append]; omega
theorem take_flat_le (ls : List (List At)) (k : Nat) : ((ls.take k).flatten).length ≤ ls.flatten.length := by
  have := congrArg (fun l : List (List At) => l.flatten.length) (List.take_append_drop k ls)
  simp only [List.flatten_append, List.length_append] at this
  omega
/-! ### Rows that are few and short -/
def lightAt (ls : List (List At)) : Bool := decide (ls.length ≤ 8) && ls.all (fun l => decide (l.length ≤ 30))
theorem flatten_le {ls : List (List At)} {m : Nat} (h : ∀ l ∈ ls, l.length ≤ m) : ls.flatten.length ≤ ls.length * m := by
  induction ls with
  | nil => simp
  | cons x ls ih =>
    have := h x (by simp)
    have := ih (fun l hl => h l (by simp [hl]))
    rw [List.flatten_cons, List.length_append, List.length_cons, Nat.succ_mul]; omega
theorem light_len {ls : List (List At)} (h : lightAt ls = true) : ls.length ≤ 8 ∧ ls.flatten.length ≤ 240 := by
  unfold lightAt at h
  rw [Bool.and_eq_true, decide_eq_true_iff, List.all_eq_true] at h
  refine ⟨h.1, Nat.le_trans (flatten_le (m := 30) (fun l hl => by simpa using h.2 l hl)) ?_⟩
  have := Nat.mul_le_mul_right 30 h.1
  omega
theorem light_no {ls : List (List At)} {k : Nat} {li : List At} (hl : ls[k]? = some li) (h : (30 : Int) < (li.length : Int)) : false = lightAt ls := by
  symm
  unfold lightAt
  rw [Bool.and_eq_false_iff]
  right
  rw [List.all_eq_false]
  exact ⟨li, List.mem_of_getElem? hl, by simp; omega⟩
theorem light_end {ls : List (List At)} {k n : Nat} (hn : n = ls.length) (hk : ¬ ((k : Int) < (n : Int) ∧ (k : Int) < 9)) (hle : k ≤ n) (h : (ls.take k).all (fun l => decide (l.length ≤ 30)) = true) : decide ((n : Int) ≤ 8) = lightAt ls := by
  unfold lightAt
  by_cases h8 : ls.length ≤ 8
  · have hk' : k = ls.length := by omega
    rw [hk', List.take_length] at h
    rw [h, Bool.and_true]
    congr 1; apply propext; omega
  · have h1 : decide (ls.length ≤ 8) = false := by simp; omega
    rw [h1, Bool.false_and]
    simp; omega
/-! ### How two rows stand -/
def cmpAt (a b : List At) : Int := if leqAt a b = true then (if leqAt b a = true then 0 else 1) else (if leqAt b a = true then 2 else 3)
theorem diff_pos (a b : List At) : decide ((0 : Int) < ((diffAt a b).length : Int)) = !leqAt a b := by
  cases h : leqAt a b with
  | true =>
    have : diffAt a b = [] := state_nil (diff_state a b) fun k => by
      rw [rkAt_diff, if_pos ((leqAt_iff a b).1 h k)]
    rw [this]; rfl
  | false =>
    have : diffAt a b ≠ [] := fun e => by
      have : leqAt a b = true := by
        rw [leqAt_iff]; intro k
        have := rkAt_diff a b k
        rw [e, rkAt_nil] at this
        split at this
        · assumption
        · omega
      rw [h] at this; cases this
    have hl := List.length_pos_iff.2 this
    simp; omega
end Go.Proofs.Ythidakffgcjjiaa
