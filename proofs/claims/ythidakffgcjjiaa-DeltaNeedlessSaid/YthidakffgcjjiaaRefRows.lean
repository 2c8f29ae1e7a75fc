/- Plain laws of the document's rows: its tests and merges are the states' own. -/
import Derived.Test.YthidakffgcjjiaaLaws
namespace Go.Proofs.Ythidakffgcjjiaa

theorem getD_some {l : List At} {k : Nat} {x : At} (h : l[k]? = some x) : l.getD k default = x := by rw [List.getD_eq_getElem?_getD, h]; rfl
theorem good_first {l : List At} {k : Nat} {x : At} (hx : l[k]? = some x) (hr : x.right = true) (h0 : k = 0) : goodAt l k = true := by
  subst h0; simp only [goodAt, getD_some hx, hr]; rfl
theorem good_later {l : List At} {k : Nat} {x y : At} (hx : l[k]? = some x) (hr : x.right = true) (hy : l[k - 1]? = some y) (h : y.k.lt x.k = true) : goodAt l k = true := by
  simp only [goodAt, getD_some hx, getD_some hy, hr, Bool.true_and, Bool.or_eq_true, decide_eq_true_eq]
  exact .inr ((Ky.ord_neg _ _).2 h)
theorem bad_right {l : List At} {k : Nat} {x : At} (hx : l[k]? = some x) (hr : x.right = false) : latRight l = false :=
  latRight_no (List.getElem?_eq_some_iff.1 hx).1 (by simp only [goodAt, getD_some hx, hr, Bool.false_and])
theorem bad_later {l : List At} {k : Nat} {x y : At} (hx : l[k]? = some x) (hy : l[k - 1]? = some y) (hk : 0 < k) (h : y.k.lt x.k = false) : latRight l = false := by
  refine latRight_no (List.getElem?_eq_some_iff.1 hx).1 ?_
  simp only [goodAt, getD_some hx, getD_some hy]
  rw [Bool.and_eq_false_iff]
  right
  rw [Bool.or_eq_false_iff]
  refine ⟨by simp; omega, ?_⟩
  rw [decide_eq_false_iff_not, Ky.ord_neg, h]
  simp
theorem latRight_state {l : List At} (h : latRight l = true) : IsState l := by
  unfold latRight at h
  rw [List.all_eq_true] at h
  have hg : ∀ k, (hk : k < l.length) → l[k].right = true ∧ (k = 0 ∨ (l.getD (k - 1) default).k.lt l[k].k = true) := fun k hk => by
    have := h k (List.mem_range.2 hk)
    have e1 : l.getD k default = l[k] := by simp [hk]
    simp only [goodAt, e1, Bool.and_eq_true, Bool.or_eq_true, decide_eq_true_eq] at this
    refine ⟨this.1, ?_⟩
    rcases this.2 with h2 | h2
    · left; simpa using h2
    · right; exact (Ky.ord_neg _ _).1 h2
  refine ⟨?_, fun a ha => by obtain ⟨k, hk, rfl⟩ := List.getElem_of_mem ha; exact (hg k hk).1⟩
  rw [Rising, List.pairwise_iff_getElem]
  have step : ∀ (d i : Nat) (hi : i < l.length) (hj : i + d + 1 < l.length), l[i].k.lt l[i + d + 1].k = true := by
    intro d
    induction d with
    | zero =>
      intro i hi hj
      have h1 := (hg (i + 0 + 1) hj).2
      rcases h1 with h1 | h1
      · omega
      · have e : l.getD (i + 0 + 1 - 1) default = l[i] := by simp [hi]
        rw [e] at h1; exact h1
    | succ d ih =>
      intro i hi hj
      have h1 := (hg (i + (d + 1) + 1) hj).2
      rcases h1 with h1 | h1
      · omega
      · have hlt : i + d + 1 < l.length := by omega
        have e : l.getD (i + (d + 1) + 1 - 1) default = l[i + d + 1] := by
          have : i + (d + 1) + 1 - 1 = i + d + 1 := by omega
          rw [this]; simp [hlt]
        rw [e] at h1
        exact Ky.lt_trans (ih i hi hlt) h1
  intro i j hi hj hij
  have := step (j - i - 1) i hi (by omega)
  simpa [show i + (j - i - 1) + 1 = j by omega] using this
theorem norm_right {l : List At} (h : latRight l = true) : normAt l = l := norm_state (latRight_state h)

/-! ### put -/
def putStep (a : At) (s : List At × Bool) (x : At) : List At × Bool :=
  if x.k = a.k then (s.1 ++ [⟨a.k, x.v.more a.v⟩], true) else if (!s.2 && a.k.lt x.k) = true then (s.1 ++ [a] ++ [x], true) else (s.1 ++ [x], s.2)
def putF (l : List At) (a : At) : List At × Bool := l.foldl (putStep a) ([], false)
def putRow (l : List At) (a : At) : List At := if (putF l a).2 then (putF l a).1 else (putF l a).1 ++ [a]
def insP (a : At) : List At → List At
  | [] => [a]
  | x :: l => if x.k = a.k then ⟨a.k, x.v.more a.v⟩ :: l else if a.k.lt x.k = true then a :: x :: l else x :: insP a l
theorem putF_snoc {l : List At} {a x : At} {k : Nat} (hx : l[k]? = some x) : putF (l.take (k + 1)) a = putStep a (putF (l.take k) a) x := by
  rw [take_snoc? hx, putF, List.foldl_append]; rfl
theorem putF_len (a : At) : ∀ (l : List At) (s : List At × Bool), (l.foldl (putStep a) s).1.length ≤ s.1.length + 2 * l.length
  | [], s => by simp
  | x :: l, s => by
    rw [List.foldl_cons]
    refine Nat.le_trans (putF_len a l _) ?_
    have : (putStep a s x).1.length ≤ s.1.length + 2 := by
      unfold putStep
      split
      · simp
      · split <;> simp
    simp only [List.length_cons]; omega
theorem putF_length (a : At) (l : List At) : (putF l a).1.length ≤ 2 * l.length := by
  have := putF_len a l ([], false)
  simpa [putF] using this
theorem put_done {a : At} : ∀ (l out : List At), (∀ x ∈ l, x.k ≠ a.k) → l.foldl (putStep a) (out, true) = (out ++ l, true)
  | [], out, _ => by simp
  | x :: l, out, h => by
    have hx := h x (by simp)
    have : putStep a (out, true) x = (out ++ [x], true) := by simp [putStep, hx]
    rw [List.foldl_cons, this, put_done l _ (fun y hy => h y (by simp [hy]))]
    simp
theorem put_ins {a : At} : ∀ (l out : List At), Rising l → (if (l.foldl (putStep a) (out, false)).2 then (l.foldl (putStep a) (out, false)).1 else (l.foldl (putStep a) (out, false)).1 ++ [a]) = out ++ insP a l
  | [], out, _ => by simp [insP]
  | x :: l, out, h => by
    obtain ⟨h1, h2⟩ := List.pairwise_cons.1 h
    rw [List.foldl_cons]
    by_cases hk : x.k = a.k
    · have e : putStep a (out, false) x = (out ++ [⟨a.k, x.v.more a.v⟩], true) := by simp [putStep, hk]
      rw [e, put_done l _ (fun y hy e => by have := h1 y hy; rw [hk, e, Ky.lt_irrefl] at this; cases this)]
      simp [insP, hk]
    · by_cases hl : a.k.lt x.k = true
      · have e : putStep a (out, false) x = (out ++ [a] ++ [x], true) := by simp [putStep, hk, hl]
        rw [e, put_done l _ (fun y hy e => by have := Ky.lt_trans hl (h1 y hy); rw [e, Ky.lt_irrefl] at this; cases this)]
        simp [insP, hk, hl]
      · have e : putStep a (out, false) x = (out ++ [x], false) := by simp [putStep, hk, hl]
        rw [e, put_ins l _ h2]
        simp [insP, hk, hl]
theorem putRow_ins {l : List At} (a : At) (h : Rising l) : putRow l a = insP a l := by
  have := put_ins (a := a) l [] h
  rw [List.nil_append] at this
  exact this
theorem ins_mem {a y : At} : ∀ {l : List At}, y ∈ insP a l → y.k = a.k ∨ y ∈ l
  | [], h => by simp only [insP, List.mem_singleton] at h; left; rw [h]
  | x :: l, h => by
    unfold insP at h
    split at h
    · rcases List.mem_cons.1 h with rfl | h
      · exact .inl rfl
      · exact .inr (by simp [h])
    · split at h
      · rcases List.mem_cons.1 h with rfl | h
        · exact .inl rfl
        · exact .inr h
      · rcases List.mem_cons.1 h with rfl | h
        · exact .inr (by simp)
        · rcases ins_mem h with h | h
          · exact .inl h
          · exact .inr (by simp [h])
theorem more_right {k : Ky} {v u : Vl} (h1 : (At.mk k v).right = true) (h2 : (At.mk k u).right = true) : (At.mk k (v.more u)).right = true := by
  unfold Vl.more
  split
  · exact h1
  · exact h2
theorem ins_state {a : At} (ha : a.right = true) : ∀ {l : List At}, IsState l → IsState (insP a l)
  | [], _ => ⟨by simp [insP, Rising], fun y hy => by simp only [insP, List.mem_singleton] at hy; rw [hy]; exact ha⟩
  | x :: l, h => by
    obtain ⟨h1, h2⟩ := List.pairwise_cons.1 h.1
    have hx := h.2 x (by simp)
    have hl : ∀ y ∈ l, y.right = true := fun y hy => h.2 y (by simp [hy])
    unfold insP
    split
    · rename_i hk
      refine ⟨List.pairwise_cons.2 ⟨fun y hy => by rw [← hk]; exact h1 y hy, h2⟩, fun y hy => ?_⟩
      rcases List.mem_cons.1 hy with rfl | hy
      · refine more_right ?_ ha
        rw [← hk]; exact hx
      · exact hl y hy
    · rename_i hk
      split
      · rename_i hlt
        refine ⟨List.pairwise_cons.2 ⟨fun y hy => ?_, h.1⟩, fun y hy => ?_⟩
        · rcases List.mem_cons.1 hy with rfl | hy
          · exact hlt
          · exact Ky.lt_trans hlt (h1 y hy)
        · rcases List.mem_cons.1 hy with rfl | hy
          · exact ha
          · exact h.2 y hy
      · rename_i hlt
        have ih := ins_state ha (l := l) ⟨h2, hl⟩
        have hxa : x.k.lt a.k = true := by
          rcases Ky.lt_total x.k a.k with h | h | h
          · exact h
          · exact absurd h hk
          · exact absurd h hlt
        refine ⟨List.pairwise_cons.2 ⟨fun y hy => ?_, ih.1⟩, fun y hy => ?_⟩
        · rcases ins_mem hy with h | h
          · rw [h]; exact hxa
          · exact h1 y h
        · rcases List.mem_cons.1 hy with rfl | hy
          · exact hx
          · exact ih.2 y hy
theorem rkOne_more {k : Ky} {v u : Vl} (h1 : (At.mk k v).right = true) (h2 : (At.mk k u).right = true) (j : Ky) : rkOne ⟨k, v.more u⟩ j = max (rkOne ⟨k, v⟩ j) (rkOne ⟨k, u⟩ j) := by
  unfold rkOne
  by_cases hj : k = j
  · rw [if_pos ⟨more_right h1 h2, hj⟩, if_pos ⟨h1, hj⟩, if_pos ⟨h2, hj⟩]
    simp only [Vl.more_rank]; omega
  · rw [if_neg (fun h => hj h.2), if_neg (fun h => hj h.2), if_neg (fun h => hj h.2)]; rfl
theorem rkAt_ins {a : At} (ha : a.right = true) (j : Ky) : ∀ {l : List At}, (∀ x ∈ l, x.right = true) → rkAt (insP a l) j = max (rkAt l j) (rkOne a j)
  | [], _ => by simp only [insP, rkAt_cons, rkAt_nil]; omega
  | x :: l, h => by
    have hx := h x (by simp)
    have hl : ∀ y ∈ l, y.right = true := fun y hy => h y (by simp [hy])
    obtain ⟨ak, av⟩ := a
    obtain ⟨xk, xv⟩ := x
    unfold insP
    split
    · rename_i hk
      simp only at hk
      subst hk
      rw [rkAt_cons, rkAt_cons, rkOne_more hx ha]; omega
    · split
      · rw [rkAt_cons, rkAt_cons]; omega
      · rw [rkAt_cons, rkAt_cons, rkAt_ins ha j hl]; omega
theorem put_norm {l : List At} {a : At} (ha : a.right = true) : putRow (normAt l) a = normAt (l ++ [a]) := by
  rw [putRow_ins a (normAt_rising l)]
  refine state_ext (ins_state ha (normAt_state l)) (normAt_state _) fun j => ?_
  rw [rkAt_ins ha j (normAt_state l).2, rkAt_norm, rkAt_norm, rkAt_append, rkAt_cons, rkAt_nil]; omega
theorem norm_skip {l : List At} {k : Nat} {x : At} (hx : l[k]? = some x) (hr : x.right = false) : normAt (l.take (k + 1)) = normAt (l.take k) := by
  rw [take_snoc? hx]
  refine norm_ext fun j => ?_
  rw [rkAt_append, rkAt_cons, rkAt_nil]
  have : rkOne x j = 0 := by unfold rkOne; rw [if_neg (by rw [hr]; simp)]
  omega
theorem norm_put {l : List At} {k : Nat} {x : At} (hx : l[k]? = some x) (hr : x.right = true) : putRow (normAt (l.take k)) x = normAt (l.take (k + 1)) := by
  rw [put_norm hr, take_snoc? hx]

/-! ### Merges -/
def mergeAt : List At → List At → List At
  | [], b => b
  | x :: a, [] => x :: a
  | x :: a, y :: b => if x.k.lt y.k = true then x :: mergeAt a (y :: b) else if y.k.lt x.k = true then y :: mergeAt (x :: a) b else ⟨x.k, x.v.more y.v⟩ :: mergeAt a b
termination_by a b => a.length + b.length
theorem merge_nil (a : List At) : mergeAt a [] = a := by cases a <;> simp [mergeAt]
theorem drop_get {l : List At} {k : Nat} {x : At} (h : l[k]? = some x) : l.drop k = x :: l.drop (k + 1) := by
  have hk := (List.getElem?_eq_some_iff.1 h).1
  rw [List.drop_eq_getElem_cons hk, (List.getElem?_eq_some_iff.1 h).2]
theorem merge_l0 {A B : List At} {i j : Nat} {x : At} (hx : A[i]? = some x) (hj : j = B.length) : mergeAt (A.drop i) (B.drop j) = x :: mergeAt (A.drop (i + 1)) (B.drop j) := by
  subst hj
  rw [List.drop_length, merge_nil, merge_nil]
  exact drop_get hx
theorem merge_l1 {A B : List At} {i j : Nat} {x y : At} (hx : A[i]? = some x) (hy : B[j]? = some y) (h : x.k.lt y.k = true) : mergeAt (A.drop i) (B.drop j) = x :: mergeAt (A.drop (i + 1)) (B.drop j) := by
  rw [drop_get hx, drop_get hy, mergeAt, if_pos h]
theorem merge_r0 {A B : List At} {i j : Nat} {y : At} (hi : i = A.length) (hy : B[j]? = some y) : mergeAt (A.drop i) (B.drop j) = y :: mergeAt (A.drop i) (B.drop (j + 1)) := by
  subst hi
  rw [List.drop_length]
  simp only [mergeAt]
  exact drop_get hy
theorem merge_r1 {A B : List At} {i j : Nat} {x y : At} (hx : A[i]? = some x) (hy : B[j]? = some y) (h0 : x.k.lt y.k = false) (h : y.k.lt x.k = true) : mergeAt (A.drop i) (B.drop j) = y :: mergeAt (A.drop i) (B.drop (j + 1)) := by
  rw [drop_get hx, drop_get hy, mergeAt, if_neg (by rw [h0]; simp), if_pos h]
theorem merge_b {A B : List At} {i j : Nat} {x y : At} (hx : A[i]? = some x) (hy : B[j]? = some y) (h0 : x.k.lt y.k = false) (h : y.k.lt x.k = false) : mergeAt (A.drop i) (B.drop j) = ⟨x.k, x.v.more y.v⟩ :: mergeAt (A.drop (i + 1)) (B.drop (j + 1)) := by
  rw [drop_get hx, drop_get hy, mergeAt, if_neg (by rw [h0]; simp), if_neg (by rw [h]; simp)]
theorem merge_mem : ∀ {a b : List At} {z : At}, z ∈ mergeAt a b → (∃ x ∈ a, z.k = x.k) ∨ ∃ y ∈ b, z.k = y.k
  | [], b, z, h => by simp only [mergeAt] at h; exact .inr ⟨z, h, rfl⟩
  | x :: a, [], z, h => by simp only [mergeAt] at h; exact .inl ⟨z, h, rfl⟩
  | x :: a, y :: b, z, h => by
    rw [mergeAt] at h
    split at h
    · rcases List.mem_cons.1 h with rfl | h
      · exact .inl ⟨z, by simp, rfl⟩
      · rcases merge_mem h with ⟨q, hq, e⟩ | ⟨q, hq, e⟩
        · exact .inl ⟨q, by simp [hq], e⟩
        · exact .inr ⟨q, hq, e⟩
    · split at h
      · rcases List.mem_cons.1 h with rfl | h
        · exact .inr ⟨z, by simp, rfl⟩
        · rcases merge_mem h with ⟨q, hq, e⟩ | ⟨q, hq, e⟩
          · exact .inl ⟨q, hq, e⟩
          · exact .inr ⟨q, by simp [hq], e⟩
      · rcases List.mem_cons.1 h with rfl | h
        · exact .inl ⟨x, by simp, rfl⟩
        · rcases merge_mem h with ⟨q, hq, e⟩ | ⟨q, hq, e⟩
          · exact .inl ⟨q, by simp [hq], e⟩
          · exact .inr ⟨q, by simp [hq], e⟩
termination_by a b => a.length + b.length
theorem merge_state : ∀ {a b : List At}, IsState a → IsState b → IsState (mergeAt a b)
  | [], b, _, hb => by simp only [mergeAt]; exact hb
  | x :: a, [], ha, _ => by simp only [mergeAt]; exact ha
  | x :: a, y :: b, ha, hb => by
    obtain ⟨a1, a2⟩ := List.pairwise_cons.1 ha.1
    obtain ⟨b1, b2⟩ := List.pairwise_cons.1 hb.1
    have ha' : IsState a := ⟨a2, fun z hz => ha.2 z (by simp [hz])⟩
    have hb' : IsState b := ⟨b2, fun z hz => hb.2 z (by simp [hz])⟩
    rw [mergeAt]
    split
    · rename_i hlt
      have ih := merge_state ha' hb
      refine ⟨List.pairwise_cons.2 ⟨fun z hz => ?_, ih.1⟩, fun z hz => ?_⟩
      · rcases merge_mem hz with ⟨q, hq, e⟩ | ⟨q, hq, e⟩
        · rw [e]; exact a1 q hq
        · rw [e]
          rcases List.mem_cons.1 hq with rfl | hq
          · exact hlt
          · exact Ky.lt_trans hlt (b1 q hq)
      · rcases List.mem_cons.1 hz with rfl | hz
        · exact ha.2 z (by simp)
        · exact ih.2 z hz
    · rename_i hlt
      split
      · rename_i hgt
        have ih := merge_state ha hb'
        refine ⟨List.pairwise_cons.2 ⟨fun z hz => ?_, ih.1⟩, fun z hz => ?_⟩
        · rcases merge_mem hz with ⟨q, hq, e⟩ | ⟨q, hq, e⟩
          · rw [e]
            rcases List.mem_cons.1 hq with rfl | hq
            · exact hgt
            · exact Ky.lt_trans hgt (a1 q hq)
          · rw [e]; exact b1 q hq
        · rcases List.mem_cons.1 hz with rfl | hz
          · exact hb.2 z (by simp)
          · exact ih.2 z hz
      · rename_i hgt
        have hk : x.k = y.k := by
          rcases Ky.lt_total x.k y.k with h | h | h
          · exact absurd h hlt
          · exact h
          · exact absurd h hgt
        have ih := merge_state ha' hb'
        refine ⟨List.pairwise_cons.2 ⟨fun z hz => ?_, ih.1⟩, fun z hz => ?_⟩
        · rcases merge_mem hz with ⟨q, hq, e⟩ | ⟨q, hq, e⟩
          · rw [e]; exact a1 q hq
          · rw [e]
            show x.k.lt q.k = true
            rw [hk]; exact b1 q hq
        · rcases List.mem_cons.1 hz with rfl | hz
          · refine more_right (ha.2 x (by simp)) ?_
            rw [hk]; exact hb.2 y (by simp)
          · exact ih.2 z hz
termination_by a b => a.length + b.length
theorem rkAt_merge (j : Ky) : ∀ {a b : List At}, IsState a → IsState b → rkAt (mergeAt a b) j = max (rkAt a j) (rkAt b j)
  | [], b, _, hb => by simp only [mergeAt, rkAt_nil]; omega
  | x :: a, [], ha, _ => by simp only [mergeAt, rkAt_nil]; omega
  | x :: a, y :: b, ha, hb => by
    obtain ⟨a1, a2⟩ := List.pairwise_cons.1 ha.1
    obtain ⟨b1, b2⟩ := List.pairwise_cons.1 hb.1
    have ha' : IsState a := ⟨a2, fun z hz => ha.2 z (by simp [hz])⟩
    have hb' : IsState b := ⟨b2, fun z hz => hb.2 z (by simp [hz])⟩
    rw [mergeAt]
    split
    · rw [rkAt_cons, rkAt_merge j ha' hb, rkAt_cons x a]; omega
    · rename_i hlt
      split
      · rw [rkAt_cons, rkAt_merge j ha hb', rkAt_cons y b]; omega
      · rename_i hgt
        have hk : x.k = y.k := by
          rcases Ky.lt_total x.k y.k with h | h | h
          · exact absurd h hlt
          · exact h
          · exact absurd h hgt
        rw [rkAt_cons, rkAt_merge j ha' hb', rkAt_cons x a, rkAt_cons y b]
        have hxr := ha.2 x (by simp)
        have hyr := hb.2 y (by simp)
        obtain ⟨xk, xv⟩ := x
        obtain ⟨yk, yv⟩ := y
        simp only at hk
        subst hk
        rw [rkOne_more hxr hyr]; omega
termination_by a b => a.length + b.length
theorem merge_norm (a b : List At) : mergeAt (normAt a) (normAt b) = normAt (a ++ b) :=
  state_ext (merge_state (normAt_state a) (normAt_state b)) (normAt_state _) fun j => by
    rw [rkAt_merge j (normAt_state a) (normAt_state b), rkAt_norm, rkAt_norm, rkAt_norm, rkAt_append]

/-! ### Meets, find -/
theorem rising_sort {l : List At} (h : Rising l) : sortAt l = l := (sortAt_rising h.nodup).eq h (sortAt_perm l)
theorem meetL_rising {l : List At} (m : List (Ky × Vl)) (h : Rising l) : Rising ((meetL l m).map atOf) := by
  unfold Rising
  rw [List.pairwise_map]
  unfold meetL
  induction l with
  | nil => simp
  | cons a l ih =>
    obtain ⟨h1, h2⟩ := List.pairwise_cons.1 h
    rw [List.filterMap_cons]
    cases hm : meetKv m a with
    | none => exact ih h2
    | some p =>
      refine List.pairwise_cons.2 ⟨fun q hq => ?_, ih h2⟩
      obtain ⟨w, _, hp⟩ := meetKv_some hm
      obtain ⟨y, hy, hqy⟩ := List.mem_filterMap.1 hq
      obtain ⟨w', _, hq'⟩ := meetKv_some hqy
      have e1 : p.1 = a.k := by rw [hp]
      have e2 : q.1 = y.k := by rw [hq']
      show p.1.lt q.1 = true
      rw [e1, e2]; exact h1 y hy
theorem meet_rows (a b : List At) : (meetL (normAt a) ((normAt b).map kvp)).map atOf = meetAt a b := (rising_sort (meetL_rising _ (normAt_rising a))).symm
theorem meet_over {l : List At} {m : List (Ky × Vl)} {k : Nat} {x : At} (hx : l[k]? = some x) (hs : (look m x.k).isSome = true) (h : x.v.over ((look m x.k).getD Vl.zero) = true) : (meetL (l.take (k + 1)) m).map atOf = (meetL (l.take k) m).map atOf ++ [⟨x.k, (look m x.k).getD Vl.zero⟩] := by
  obtain ⟨w, hw⟩ := Option.isSome_iff_exists.1 hs
  rw [hw, Option.getD_some] at h
  unfold meetL
  rw [take_snoc? hx, List.filterMap_append]
  simp [meetKv, hw, h, atOf]
theorem meet_under {l : List At} {m : List (Ky × Vl)} {k : Nat} {x : At} (hx : l[k]? = some x) (hs : (look m x.k).isSome = true) (h : x.v.over ((look m x.k).getD Vl.zero) = false) : (meetL (l.take (k + 1)) m).map atOf = (meetL (l.take k) m).map atOf ++ [x] := by
  obtain ⟨w, hw⟩ := Option.isSome_iff_exists.1 hs
  rw [hw, Option.getD_some] at h
  unfold meetL
  rw [take_snoc? hx, List.filterMap_append]
  simp [meetKv, hw, h, atOf]
theorem look_step {l : List At} {k : Nat} {x : At} {q : Ky} (hx : l[k]? = some x) (hn : look ((l.take k).map kvp) q = none) (h : ¬ x.k = q) : look ((l.take (k + 1)).map kvp) q = none := by
  rw [take_snoc? hx, List.map_append]
  unfold look at hn ⊢
  rw [List.find?_append]
  simp only [Option.map_eq_none_iff] at hn ⊢
  rw [hn]
  simp [kvp, h]
theorem look_hit {l : List At} {k : Nat} {x : At} {q : Ky} (hx : l[k]? = some x) (hn : look ((l.take k).map kvp) q = none) (h : x.k = q) : look (l.map kvp) q = some x.v := by
  have hk := (List.getElem?_eq_some_iff.1 hx).1
  have e : l = l.take k ++ (x :: l.drop (k + 1)) := by rw [← drop_get hx, List.take_append_drop]
  rw [e, List.map_append]
  unfold look at hn ⊢
  rw [List.find?_append]
  simp only [Option.map_eq_none_iff] at hn
  rw [hn]
  simp [kvp, h]
end Go.Proofs.Ythidakffgcjjiaa
