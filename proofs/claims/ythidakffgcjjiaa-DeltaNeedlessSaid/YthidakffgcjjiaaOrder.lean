/- The order of keys is a total one; rows that rise are known by their members. -/
import Derived.Test.YthidakffgcjjiaaSpec
namespace Go.Proofs.Ythidakffgcjjiaa

theorem numOf_eq (n : Nm) : n.num = ((((((n.b0.toNat * 256 + n.b1.toNat) * 256 + n.b2.toNat) * 256 + n.b3.toNat) * 256 + n.b4.toNat) * 256 + n.b5.toNat) * 256 + n.b6.toNat) * 256 + n.b7.toNat := by
  simp [Nm.num, Nm.list, numOf]
theorem Nm.num_inj {a b : Nm} (h : a.num = b.num) : a = b := by
  rw [numOf_eq, numOf_eq] at h
  obtain ⟨a0, a1, a2, a3, a4, a5, a6, a7⟩ := a
  obtain ⟨b0, b1, b2, b3, b4, b5, b6, b7⟩ := b
  have := a0.toNat_lt; have := a1.toNat_lt; have := a2.toNat_lt; have := a3.toNat_lt; have := a4.toNat_lt; have := a5.toNat_lt; have := a6.toNat_lt; have := a7.toNat_lt
  have := b0.toNat_lt; have := b1.toNat_lt; have := b2.toNat_lt; have := b3.toNat_lt; have := b4.toNat_lt; have := b5.toNat_lt; have := b6.toNat_lt; have := b7.toNat_lt
  simp only [Nm.mk.injEq, ← UInt8.toNat_inj]
  simp only at h
  omega
theorem Ky.eq_of {a b : Ky} (h0 : a.w0 = b.w0) (h1 : a.item.num = b.item.num) (h2 : a.dot = b.dot) : a = b := by
  have hi := Nm.num_inj h1
  obtain ⟨s, c, i, r, q⟩ := a
  obtain ⟨s', c', i', r', q'⟩ := b
  simp only [Ky.w0, Ky.dot] at h0 h2
  have := c.toNat_lt; have := c'.toNat_lt; have := q.toNat_lt; have := q'.toNat_lt
  simp only [Ky.mk.injEq, ← UInt8.toNat_inj, ← UInt16.toNat_inj, ← UInt32.toNat_inj]
  refine ⟨by omega, by omega, hi, by omega, by omega⟩
theorem Ky.lt_iff (a b : Ky) : a.lt b = true ↔ a.w0 < b.w0 ∨ (a.w0 = b.w0 ∧ (a.item.num < b.item.num ∨ (a.item.num = b.item.num ∧ a.dot < b.dot))) := by
  unfold Ky.lt
  split
  · simp; omega
  · split
    · simp; omega
    · simp; omega
theorem Ky.lt_irrefl (a : Ky) : a.lt a = false := by
  cases h : a.lt a
  · rfl
  · rw [Ky.lt_iff] at h; omega
theorem Ky.lt_trans {a b c : Ky} (h : a.lt b = true) (k : b.lt c = true) : a.lt c = true := by
  rw [Ky.lt_iff] at *; omega
theorem Ky.lt_total (a b : Ky) : a.lt b = true ∨ a = b ∨ b.lt a = true := by
  by_cases h : a = b
  · exact .inr (.inl h)
  · by_cases h0 : a.w0 = b.w0
    · by_cases h1 : a.item.num = b.item.num
      · by_cases h2 : a.dot = b.dot
        · exact absurd (Ky.eq_of h0 h1 h2) h
        · simp only [Ky.lt_iff]; omega
      · simp only [Ky.lt_iff]; omega
    · simp only [Ky.lt_iff]; omega
theorem Ky.lt_asymm {a b : Ky} (h : a.lt b = true) : b.lt a = false := by
  cases k : b.lt a
  · rfl
  · rw [Ky.lt_iff] at *; omega
theorem Ky.lt_ne {a b : Ky} (h : a.lt b = true) : a ≠ b := fun e => by rw [e, Ky.lt_irrefl] at h; cases h
theorem Ky.ord_neg (a b : Ky) : (a.ord b < 0) ↔ a.lt b = true := by
  unfold Ky.ord
  by_cases h : a = b
  · subst h; simp [Ky.lt_irrefl]
  · rw [if_neg h]
    cases a.lt b <;> simp

/-- A row whose keys rise. -/
def Rising (l : List At) : Prop := l.Pairwise (fun a b => a.k.lt b.k = true)

theorem Rising.eq {l m : List At} (hl : Rising l) (hm : Rising m) (h : l.Perm m) : l = m := by
  refine List.Perm.eq_of_pairwise (le := fun (a b : At) => a.k.lt b.k = true) ?_ hl hm h
  intro a b _ _ h1 h2
  have := Ky.lt_asymm h1
  rw [h2] at this
  cases this
theorem Rising.nodup {l : List At} (hl : Rising l) : (l.map (·.k)).Nodup := by
  rw [List.Nodup, List.pairwise_map]
  exact hl.imp (fun h => Ky.lt_ne h)

/-- Insertion into a row that rises. -/
def insAt (a : At) : List At → List At
  | [] => [a]
  | b :: l => if a.k.lt b.k then a :: b :: l else b :: insAt a l
def sortAt (l : List At) : List At := l.foldr insAt []
theorem insAt_perm (a : At) : ∀ l, (insAt a l).Perm (a :: l)
  | [] => .refl _
  | b :: l => by
    unfold insAt
    split
    · exact .refl _
    · exact ((insAt_perm a l).cons b).trans (.swap a b l)
theorem sortAt_perm : ∀ l, (sortAt l).Perm l
  | [] => .refl _
  | a :: l => (insAt_perm a (sortAt l)).trans ((sortAt_perm l).cons a)
theorem insAt_rising {a : At} : ∀ {l : List At}, Rising l → (∀ b ∈ l, a.k ≠ b.k) → Rising (insAt a l)
  | [], _, _ => by simp [insAt, Rising]
  | b :: l, h, hne => by
    obtain ⟨h1, h2⟩ := List.pairwise_cons.1 h
    unfold insAt
    split
    · rename_i hab
      refine List.pairwise_cons.2 ⟨fun c hc => ?_, h⟩
      rcases List.mem_cons.1 hc with rfl | hc
      · exact hab
      · exact Ky.lt_trans hab (h1 c hc)
    · rename_i hab
      have hba : b.k.lt a.k = true := by
        rcases Ky.lt_total a.k b.k with h | h | h
        · exact absurd h hab
        · exact absurd h (hne b (by simp))
        · exact h
      refine List.pairwise_cons.2 ⟨fun c hc => ?_, insAt_rising h2 (fun c hc => hne c (by simp [hc]))⟩
      rcases List.mem_cons.1 ((insAt_perm a l).mem_iff.1 hc) with rfl | hc
      · exact hba
      · exact h1 c hc
theorem sortAt_rising : ∀ {l : List At}, (l.map (·.k)).Nodup → Rising (sortAt l)
  | [], _ => by simp [sortAt, Rising]
  | a :: l, h => by
    rw [List.map_cons, List.nodup_cons] at h
    exact insAt_rising (sortAt_rising h.2) (fun b hb e => h.1 (e ▸ List.mem_map.2 ⟨b, (sortAt_perm l).mem_iff.1 hb, rfl⟩))
theorem sortAt_eq {l m : List At} (hm : Rising m) (h : m.Perm l) : m = sortAt l :=
  hm.eq (sortAt_rising ((h.map (·.k)).nodup_iff.1 hm.nodup)) (h.trans (sortAt_perm l).symm)
#print axioms sortAt_eq
end Go.Proofs.Ythidakffgcjjiaa
