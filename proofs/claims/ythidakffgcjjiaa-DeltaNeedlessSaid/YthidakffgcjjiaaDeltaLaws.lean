/- Plain laws of differences and of rows of rows: what delta's functions compute. -/
import Derived.Test.YthidakffgcjjiaaRefRows
namespace Go.Proofs.Ythidakffgcjjiaa

def diffP (m : List (Ky × Vl)) (x : At) : Bool := !(look m x.k).isSome || !leqAt [x] [⟨x.k, (look m x.k).getD Vl.zero⟩]
def diffAt (a b : List At) : List At := (normAt a).filter (diffP ((normAt b).map kvp))
theorem dp_none {m : List (Ky × Vl)} {x : At} (h : (look m x.k).isSome = false) : true = diffP m x := by simp [diffP, h]
theorem dp_some {m : List (Ky × Vl)} {x : At} (h : (look m x.k).isSome = true) : (!leqAt [x] [⟨x.k, (look m x.k).getD Vl.zero⟩]) = diffP m x := by simp [diffP, h]
theorem filter_next {α : Type} {p : α → Bool} {l : List α} {k : Nat} {x : α} (hx : l[k]? = some x) (h : p x = true) : (l.take (k + 1)).filter p = (l.take k).filter p ++ [x] := by
  rw [take_snoc? hx, List.filter_append]; simp [h]
theorem filter_skip {α : Type} {p : α → Bool} {l : List α} {k : Nat} {x : α} (hx : l[k]? = some x) (h : p x = false) : (l.take (k + 1)).filter p = (l.take k).filter p := by
  rw [take_snoc? hx, List.filter_append]; simp [h]
theorem diff_length (a b : List At) : (diffAt a b).length ≤ a.length := Nat.le_trans (List.length_filter_le _ _) (normAt_length a)
theorem filter_state {s : List At} (p : At → Bool) (h : IsState s) : IsState (s.filter p) := ⟨h.1.sublist List.filter_sublist, fun a ha => h.2 a (List.mem_filter.1 ha).1⟩
theorem diff_state (a b : List At) : IsState (diffAt a b) := filter_state _ (normAt_state a)
theorem one_state {x : At} (h : x.right = true) : IsState [x] := ⟨by simp [Rising], fun a ha => by simp only [List.mem_singleton] at ha; rw [ha]; exact h⟩
theorem rkAt_one {x : At} (h : x.right = true) (k : Ky) : rkAt [x] k = if x.k = k then x.v.rank + 1 else 0 := by
  rw [rkAt_cons, rkAt_nil]
  unfold rkOne
  simp [h]
theorem leq_one {x : At} {u : Vl} (h1 : x.right = true) (h2 : (At.mk x.k u).right = true) : leqAt [x] [⟨x.k, u⟩] = decide (x.v.rank ≤ u.rank) := by
  rw [Bool.eq_iff_iff, leqAt_iff, decide_eq_true_iff]
  constructor
  · intro h
    have := h x.k
    rw [rkAt_one h1, rkAt_one h2, if_pos rfl, if_pos rfl] at this
    simpa using this
  · intro h k
    rw [rkAt_one h1, rkAt_one h2]
    show (if x.k = k then x.v.rank + 1 else 0) ≤ (if x.k = k then u.rank + 1 else 0)
    split <;> omega
theorem rkAt_filter {s : List At} (p : At → Bool) (h : IsState s) (k : Ky) : rkAt (s.filter p) k = match s.find? (fun a => decide (a.k = k)) with | none => 0 | some a => if p a then a.v.rank + 1 else 0 := by
  induction s with
  | nil => rfl
  | cons a s ih =>
    obtain ⟨h1, h2⟩ := List.pairwise_cons.1 h.1
    have hs : IsState s := ⟨h2, fun b hb => h.2 b (by simp [hb])⟩
    have hn : a.k = k → s.find? (fun a => decide (a.k = k)) = none := fun hk => by
      rw [List.find?_eq_none]
      intro b hb
      simp only [decide_eq_true_eq]
      intro e
      exact Ky.lt_ne (h1 b hb) (hk.trans e.symm)
    rw [List.filter_cons, List.find?_cons]
    by_cases hk : a.k = k
    · have hd : decide (a.k = k) = true := by simp [hk]
      rw [hd]
      have ih' := ih hs
      rw [hn hk] at ih'
      simp only
      split
      · rw [rkAt_cons, ih']
        unfold rkOne
        rw [if_pos ⟨h.2 a (by simp), hk⟩]; exact Nat.max_eq_left (Nat.zero_le _)
      · rw [ih']
    · have hd : decide (a.k = k) = false := by simp [hk]
      rw [hd]
      simp only
      split
      · rw [rkAt_cons, ih hs]
        unfold rkOne
        rw [if_neg (fun e => hk e.2)]; omega
      · exact ih hs
theorem look_find (s : List At) (k : Ky) : look (s.map kvp) k = (s.find? (fun a => decide (a.k = k))).map (·.v) := by
  induction s with
  | nil => rfl
  | cons a s ih =>
    rw [List.map_cons, List.find?_cons]
    unfold look at ih ⊢
    rw [List.find?_cons]
    by_cases hk : a.k = k
    · simp [kvp, hk]
    · have h1 : decide (a.k = k) = false := by simp [hk]
      have h2 : decide ((kvp a).1 = k) = false := by simp [kvp, hk]
      rw [h1, h2]; exact ih
theorem find_spec {s : List At} {k : Ky} {a : At} (h : s.find? (fun a => decide (a.k = k)) = some a) : a ∈ s ∧ a.k = k := ⟨List.mem_of_find?_eq_some h, by simpa using List.find?_some h⟩
/-- What a difference is at each key. -/
theorem rkAt_diff (a b : List At) (k : Ky) : rkAt (diffAt a b) k = if rkAt a k ≤ rkAt b k then 0 else rkAt a k := by
  unfold diffAt
  rw [rkAt_filter _ (normAt_state a)]
  have ha : rkAt a k = rk (look ((normAt a).map kvp) k) := by rw [look_norm]; rfl
  have hb : rkAt b k = rk (look ((normAt b).map kvp) k) := by rw [look_norm]; rfl
  rw [look_find] at ha
  cases hf : (normAt a).find? (fun a => decide (a.k = k)) with
  | none =>
    rw [hf] at ha
    simp only [Option.map_none, rk] at ha
    simp [ha]
  | some x =>
    obtain ⟨hx, hk⟩ := find_spec hf
    have hr := (normAt_state a).2 x hx
    rw [hf] at ha
    simp only [Option.map_some, rk] at ha
    simp only
    unfold diffP
    rw [hk]
    cases hl : look ((normAt b).map kvp) k with
    | none =>
      rw [hl] at hb
      simp only [rk] at hb
      simp only [Option.isSome_none, Bool.not_false, Bool.true_or, if_true]
      rw [if_neg (by omega)]; omega
    | some u =>
      rw [hl] at hb
      simp only [rk] at hb
      obtain ⟨y, hy, hyu⟩ := List.mem_map.1 (look_mem hl)
      have hyr := (normAt_state b).2 y hy
      have e : (At.mk x.k u) = y := by
        obtain ⟨yk, yv⟩ := y
        simp only [kvp, Prod.mk.injEq] at hyu
        rw [hk, hyu.1, hyu.2]
      have hlo := leq_one hr (u := u) (by rw [e]; exact hyr)
      rw [hk] at hlo
      simp only [Option.isSome_some, Bool.not_true, Bool.false_or, Option.getD_some, hlo]
      rw [ha, hb]
      by_cases hle : x.v.rank ≤ u.rank
      · have h2 : x.v.rank + 1 ≤ u.rank + 1 := by omega
        rw [decide_eq_true hle, if_pos h2]; rfl
      · have h2 : ¬ x.v.rank + 1 ≤ u.rank + 1 := by omega
        rw [decide_eq_false hle, if_neg h2]; rfl
theorem state_nil {s : List At} (h : IsState s) (h0 : ∀ k, rkAt s k = 0) : s = [] := state_ext h ⟨by simp [Rising], fun a ha => by cases ha⟩ (fun k => by rw [h0, rkAt_nil])

/-! ### What DeltaLeast says of differences -/
section
variable (a b c : List At)
theorem dl1 : normAt (diffAt a b ++ b) = normAt (a ++ b) := norm_ext fun k => by rw [rkAt_append, rkAt_append, rkAt_diff]; split <;> omega
theorem dl2 : leqAt (diffAt a b) a = true := by rw [leqAt_iff]; intro k; rw [rkAt_diff]; split <;> omega
theorem dl3 : diffAt (diffAt a b) (normAt (a ++ b)) = [] := state_nil (diff_state _ _) fun k => by
  rw [rkAt_diff, rkAt_norm, rkAt_append, rkAt_diff]; rw [if_pos]; split <;> omega
theorem dl4 (h : normAt (c ++ b) = normAt (a ++ b)) : leqAt (diffAt a b) c = true := by
  rw [leqAt_iff]; intro k
  have := norm_eq_iff.1 h k
  rw [rkAt_append, rkAt_append] at this
  rw [rkAt_diff]; split <;> omega
end
theorem leq_norm_r (a b : List At) : leqAt a (normAt b) = leqAt a b := by
  rw [Bool.eq_iff_iff, leqAt_iff, leqAt_iff]
  simp only [rkAt_norm]

/-! ### Rows that others make needless -/
theorem rkAt_erase : ∀ (ls : List (List At)) (i : Nat) (k : Ky), i < ls.length → rkAt ls.flatten k = max (rkAt (ls.getD i []) k) (rkAt (ls.eraseIdx i).flatten k)
  | [], _, _, h => by simp at h
  | x :: ls, 0, k, _ => by
    rw [List.flatten_cons, rkAt_append]; rfl
  | x :: ls, i + 1, k, h => by
    have ih := rkAt_erase ls i k (by simpa using h)
    rw [List.flatten_cons, rkAt_append, ih, List.eraseIdx_cons_succ, List.flatten_cons, rkAt_append]
    have e : (x :: ls).getD (i + 1) [] = ls.getD i [] := rfl
    rw [e]; omega
theorem rkAt_set : ∀ (ls : List (List At)) (i : Nat) (k : Ky), rkAt (ls.set i []).flatten k = rkAt (ls.eraseIdx i).flatten k
  | [], _, _ => rfl
  | x :: ls, 0, k => rfl
  | x :: ls, i + 1, k => by
    rw [List.set_cons_succ, List.eraseIdx_cons_succ, List.flatten_cons, List.flatten_cons, rkAt_append, rkAt_append, rkAt_set ls i k]
theorem flatten_erase_le : ∀ (ls : List (List At)) (i : Nat), (ls.eraseIdx i).flatten.length ≤ ls.flatten.length
  | [], _ => by simp
  | x :: ls, 0 => by simp
  | x :: ls, i + 1 => by
    have := flatten_erase_le ls i
    rw [List.eraseIdx_cons_succ, List.flatten_cons, List.flatten_cons, List.length_append, List.length_append]
    omega
theorem flatten_set_le : ∀ (ls : List (List At)) (i : Nat), (ls.set i []).flatten.length ≤ ls.flatten.length
  | [], _ => by simp
  | x :: ls, 0 => by simp
  | x :: ls, i + 1 => by
    have := flatten_set_le ls i
    rw [List.set_cons_succ, List.flatten_cons, List.flatten_cons, List.length_append, List.length_append]
    omega
theorem ones_flatten (l : List At) : (l.map (fun a => [a])).flatten = l := by
  induction l with
  | nil => rfl
  | cons a l ih => rw [List.map_cons, List.flatten_cons, ih]; rfl
theorem get_flatten_le : ∀ {ls : List (List At)} {k : Nat} {li : List At}, ls[k]? = some li → li.length ≤ ls.flatten.length
  | [], _, _, h => by cases h
  | x :: ls, 0, li, h => by cases h; rw [List.flatten_cons, List.length_append]; omega
  | x :: ls, k + 1, li, h => by
    have := get_flatten_le (ls := ls) (k := k) (li := li) (by simpa using h)
    rw [List.flatten_cons, List.length_append]; omega
def spareAt (ls left : List (List At)) (i : Nat) : Bool := leqAt (ls.getD i []) (left.eraseIdx i).flatten
def needStep (ls : List (List At)) (st : List Int × List (List At)) (i : Nat) : List Int × List (List At) := if spareAt ls st.2 i then (st.1 ++ [(i : Int)], st.2.set i []) else st
def needF (ls : List (List At)) (k : Nat) : List Int × List (List At) := (List.range k).foldl (needStep ls) ([], ls)
theorem needF_succ (ls : List (List At)) (k : Nat) : needF ls (k + 1) = needStep ls (needF ls k) k := by rw [needF, List.range_succ, List.foldl_append]; rfl
theorem need_yes {ls : List (List At)} {k : Nat} {di : List Int} {lss : List (List At)} {li : List At} (h : (di, lss) = needF ls k) (hl : ls[k]? = some li) (hs : leqAt li (lss.eraseIdx k).flatten = true) : (di ++ [(k : Int)], lss.set k []) = needF ls (k + 1) := by
  rw [needF_succ, ← h, needStep]
  have : spareAt ls lss k = true := by rw [spareAt, List.getD_eq_getElem?_getD, hl]; exact hs
  simp only [this, if_true]
theorem need_no {ls : List (List At)} {k : Nat} {di : List Int} {lss : List (List At)} {li : List At} (h : (di, lss) = needF ls k) (hl : ls[k]? = some li) (hs : leqAt li (lss.eraseIdx k).flatten = false) : (di, lss) = needF ls (k + 1) := by
  rw [needF_succ, ← h, needStep]
  have : spareAt ls lss k = false := by rw [spareAt, List.getD_eq_getElem?_getD, hl]; exact hs
  simp [this]
theorem needF_len (ls : List (List At)) : ∀ k, (needF ls k).2.length = ls.length
  | 0 => rfl
  | k + 1 => by
    rw [needF_succ, needStep]
    split
    · rw [List.length_set]; exact needF_len ls k
    · exact needF_len ls k
theorem needF_idx (ls : List (List At)) : ∀ k, (needF ls k).1.length ≤ k ∧ ∀ x ∈ (needF ls k).1, ∃ n : Nat, n < k ∧ x = (n : Int)
  | 0 => ⟨Nat.le_refl _, fun x hx => by cases hx⟩
  | k + 1 => by
    obtain ⟨h1, h2⟩ := needF_idx ls k
    rw [needF_succ, needStep]
    split
    · refine ⟨by simp; omega, fun x hx => ?_⟩
      rcases List.mem_append.1 hx with hx | hx
      · obtain ⟨n, hn, e⟩ := h2 x hx; exact ⟨n, by omega, e⟩
      · simp only [List.mem_singleton] at hx; exact ⟨k, by omega, hx⟩
    · exact ⟨by omega, fun x hx => by obtain ⟨n, hn, e⟩ := h2 x hx; exact ⟨n, by omega, e⟩⟩
theorem needF_rest (ls : List (List At)) : ∀ k j, k ≤ j → (needF ls k).2.getD j [] = ls.getD j []
  | 0, _, _ => rfl
  | k + 1, j, h => by
    rw [needF_succ, needStep]
    split
    · rw [← needF_rest ls k j (by omega)]
      simp only [List.getD_eq_getElem?_getD]
      rw [List.getElem?_set_ne (by omega)]
    · exact needF_rest ls k j (by omega)
theorem needF_rk (ls : List (List At)) (q : Ky) : ∀ k, k ≤ ls.length → rkAt (needF ls k).2.flatten q = rkAt ls.flatten q
  | 0, _ => rfl
  | k + 1, h => by
    have ih := needF_rk ls q k (by omega)
    rw [needF_succ, needStep]
    split
    · rename_i hs
      have hl := (leqAt_iff _ _).1 hs q
      show rkAt ((needF ls k).2.set k []).flatten q = _
      rw [rkAt_set]
      have he := rkAt_erase (needF ls k).2 k q (by rw [needF_len]; omega)
      rw [needF_rest ls k k (Nat.le_refl _)] at he
      rw [← ih]; omega
    · exact ih
theorem need_norm (ls : List (List At)) : normAt (needF ls ls.length).2.flatten = normAt ls.flatten := norm_ext fun q => needF_rk ls q _ (Nat.le_refl _)
def setsAt (ls : List (List At)) (is : List Int) : List (List At) := is.foldl (fun l i => l.set i.toNat []) ls
theorem setsAt_snoc (ls : List (List At)) (is : List Int) (i : Int) : setsAt ls (is ++ [i]) = (setsAt ls is).set i.toNat [] := by simp [setsAt]
theorem need_sets (ls : List (List At)) : ∀ k, setsAt ls (needF ls k).1 = (needF ls k).2
  | 0 => rfl
  | k + 1 => by
    rw [needF_succ, needStep]
    split
    · rw [setsAt_snoc, need_sets ls k]; rfl
    · exact need_sets ls k
def irredAt (ls : List (List At)) : Bool := (List.range ls.length).all (fun i => !spareAt ls ls i)
theorem range_next {p : Nat → Bool} {k : Nat} (h : (List.range k).all p = true) (hk : p k = true) : (List.range (k + 1)).all p = true := by
  rw [List.range_succ, List.all_append, h]; simp [hk]
theorem range_not {p : Nat → Bool} {k n : Nat} (hk : k < n) (h : p k = false) : (List.range n).all p = false := by
  rw [List.all_eq_false]
  exact ⟨k, by simpa using hk, by simp [h]⟩
theorem spare_eq {ls : List (List At)} {k : Nat} {li : List At} {b : Bool} (hl : ls[k]? = some li) (h : leqAt li (ls.eraseIdx k).flatten = b) : (!spareAt ls ls k) = !b := by
  rw [spareAt, List.getD_eq_getElem?_getD, hl]
  show (!leqAt li (ls.eraseIdx k).flatten) = !b
  rw [h]
end Go.Proofs.Ythidakffgcjjiaa
