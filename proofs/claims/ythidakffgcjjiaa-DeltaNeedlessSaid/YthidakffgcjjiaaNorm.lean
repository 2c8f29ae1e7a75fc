/- Plain laws of rows' states: rising rows, what their entries are as a map, meets, and when one is below another. -/
import Derived.Test.YthidakffgcjjiaaKnown
namespace Go.Proofs.Ythidakffgcjjiaa

def kvp (a : At) : Ky × Vl := (a.k, a.v)
theorem kvp_atOf (p : Ky × Vl) : kvp (atOf p) = p := rfl
theorem atOf_kvp (a : At) : atOf (kvp a) = a := rfl
theorem putKv_keys (m : List (Ky × Vl)) (k : Ky) (v : Vl) : (m.map Prod.fst).Nodup → ((putKv m k v).map Prod.fst).Nodup := by
  intro h
  unfold putKv
  split
  · rw [put_keys_some]; exact h
  · rename_i hn
    have hn : look m k = none := by simpa using hn
    rw [List.map_append, List.nodup_append]
    refine ⟨h, by simp, fun a ha b hb e => ?_⟩
    simp only [List.map_cons, List.map_nil, List.mem_singleton] at hb
    obtain ⟨p, hp, rfl⟩ := List.mem_map.1 ha
    have : look m k = some p.2 := look_some h (by rw [← hb, ← e]; exact hp)
    rw [hn] at this; cases this
theorem upd_keys {m : List (Ky × Vl)} (a : At) (h : (m.map Prod.fst).Nodup) : ((upd m a).map Prod.fst).Nodup := by
  unfold upd
  split
  · exact putKv_keys _ _ _ h
  · exact h
theorem known_keys (l : List At) : ((known l).map Prod.fst).Nodup := by
  have : ∀ (l : List At) (m : List (Ky × Vl)), (m.map Prod.fst).Nodup → ((l.foldl upd m).map Prod.fst).Nodup := by
    intro l
    induction l with
    | nil => intro m h; exact h
    | cons a l ih => intro m h; exact ih _ (upd_keys a h)
  exact this l [] (by simp)
theorem atOf_keys (m : List (Ky × Vl)) : (m.map atOf).map (·.k) = m.map Prod.fst := by rw [List.map_map]; rfl
theorem normAt_rising (l : List At) : Rising (normAt l) := sortAt_rising (by rw [atOf_keys]; exact known_keys l)
theorem normAt_length (l : List At) : (normAt l).length ≤ l.length := by
  unfold normAt
  rw [sortAt_length, List.length_map]
  exact known_length l
theorem normAt_mem (l : List At) (a : At) : a ∈ normAt l ↔ kvp a ∈ known l := by
  unfold normAt
  rw [(sortAt_perm _).mem_iff, List.mem_map]
  exact ⟨fun ⟨p, hp, e⟩ => by rw [← e]; exact hp, fun h => ⟨_, h, rfl⟩⟩

theorem normAt_len2 (a b : List At) : (normAt (a ++ b)).length ≤ a.length + b.length := by
  have := normAt_length (a ++ b)
  rwa [List.length_append] at this
/-- A key that is behind all others is not known yet. -/
theorem rising_new {l : List At} (h : Rising l) {i : Nat} {x : At} (hx : l[i]? = some x) : ∀ a ∈ l.take i, a.k ≠ x.k := by
  intro a ha
  obtain ⟨j, hj, rfl⟩ := List.getElem_of_mem ha
  have hj1 : j < i := by have := hj; simp only [List.length_take] at this; omega
  have hi := (List.getElem?_eq_some_iff.1 hx).1
  rw [List.getElem_take]
  have := (List.pairwise_iff_getElem.1 h) j i (by omega) hi hj1
  rw [(List.getElem?_eq_some_iff.1 hx).2] at this
  exact Ky.lt_ne this
theorem take_snoc? {α : Type} {l : List α} {i : Nat} {x : α} (h : l[i]? = some x) : l.take (i + 1) = l.take i ++ [x] := by rw [List.take_add_one, h]; rfl
theorem facts_next {l : List At} (h : Rising l) {i : Nat} {x : At} (hx : l[i]? = some x) : putKv ((l.take i).map kvp) x.k x.v = (l.take (i + 1)).map kvp := by
  have hn : look ((l.take i).map kvp) x.k = none := look_none (fun p hp => by
    obtain ⟨a, ha, rfl⟩ := List.mem_map.1 hp
    exact rising_new h hx a ha)
  rw [take_snoc? hx, List.map_append]
  unfold putKv
  rw [hn]
  rfl

/-- What a meet of a rising row with a map is made of. -/
def meetKv (m : List (Ky × Vl)) (a : At) : Option (Ky × Vl) := (look m a.k).map fun w => (a.k, if a.v.over w then w else a.v)
def meetL (l : List At) (m : List (Ky × Vl)) : List (Ky × Vl) := l.filterMap (meetKv m)
theorem meetL_keys {l : List At} (m : List (Ky × Vl)) (h : Rising l) : ((meetL l m).map Prod.fst).Nodup := by
  have hs : ((meetL l m).map Prod.fst).Sublist (l.map (·.k)) := by
    unfold meetL
    clear h
    induction l with
    | nil => simp
    | cons a l ih =>
      rw [List.filterMap_cons]
      cases hm : meetKv m a with
      | none => exact ih.cons _
      | some p =>
        have hp : p.1 = a.k := by
          unfold meetKv at hm
          cases hl : look m a.k with
          | none => rw [hl] at hm; cases hm
          | some w => rw [hl] at hm; cases hm; rfl
        simp only [List.map_cons, hp]
        exact ih.cons_cons _
  exact hs.nodup h.nodup
theorem meetL_skip {l : List At} {m : List (Ky × Vl)} {i : Nat} {x : At} (hx : l[i]? = some x) (hn : (look m x.k).isSome = false) : meetL (l.take (i + 1)) m = meetL (l.take i) m := by
  have : look m x.k = none := by simpa using hn
  unfold meetL
  rw [take_snoc? hx, List.filterMap_append]
  simp [meetKv, this]
theorem meetL_next {l : List At} {m : List (Ky × Vl)} (h : Rising l) {i : Nat} {x : At} {v : Vl} (hx : l[i]? = some x) (hs : (look m x.k).isSome = true) (hv : (if x.v.over ((look m x.k).getD Vl.zero) then (look m x.k).getD Vl.zero else x.v) = v) : putKv (meetL (l.take i) m) x.k v = meetL (l.take (i + 1)) m := by
  obtain ⟨w, hw⟩ := Option.isSome_iff_exists.1 hs
  rw [hw, Option.getD_some] at hv
  have hn : look (meetL (l.take i) m) x.k = none := look_none (fun p hp => by
    obtain ⟨a, ha, hp⟩ := List.mem_filterMap.1 hp
    have : p.1 = a.k := by
      unfold meetKv at hp
      cases hl : look m a.k with
      | none => rw [hl] at hp; cases hp
      | some w => rw [hl] at hp; cases hp; rfl
    rw [this]
    exact rising_new h hx a ha)
  have e : meetL (l.take (i + 1)) m = meetL (l.take i) m ++ [(x.k, v)] := by
    unfold meetL
    rw [take_snoc? hx, List.filterMap_append]
    simp [meetKv, hw, hv]
  rw [e]
  simp [putKv, hn]
theorem meetL_length (l : List At) (m : List (Ky × Vl)) : (meetL l m).length ≤ l.length := List.length_filterMap_le _ _
/-- The meet of two rows. -/
def meetAt (a b : List At) : List At := sortAt ((meetL (normAt a) ((normAt b).map kvp)).map atOf)
theorem meetAt_length (a b : List At) : (meetAt a b).length ≤ a.length := by
  unfold meetAt
  rw [sortAt_length, List.length_map]
  exact Nat.le_trans (meetL_length _ _) (normAt_length a)
/-- Is an atom below what a map knows? -/
def belowM (m : List (Ky × Vl)) (a : At) : Bool := match look m a.k with | none => false | some w => w.over a.v
def leqAt (a b : List At) : Bool := (normAt a).all (belowM ((normAt b).map kvp))
theorem belowM_none {m : List (Ky × Vl)} {a : At} (h : (look m a.k).isSome = false) : belowM m a = false := by
  have : look m a.k = none := by simpa using h
  simp [belowM, this]
theorem belowM_some {m : List (Ky × Vl)} {a : At} (h : (look m a.k).isSome = true) : belowM m a = ((look m a.k).getD Vl.zero).over a.v := by
  obtain ⟨w, hw⟩ := Option.isSome_iff_exists.1 h
  simp [belowM, hw]
theorem all_next {α : Type} {p : α → Bool} {l : List α} {i : Nat} {x : α} (hx : l[i]? = some x) (h : (l.take i).all p = true) (hp : p x = true) : (l.take (i + 1)).all p = true := by
  rw [take_snoc? hx, List.all_append, h]; simp [hp]
theorem all_not {α : Type} {p : α → Bool} {l : List α} {i : Nat} {x : α} (hx : l[i]? = some x) (hp : p x = false) : l.all p = false := by
  rw [List.all_eq_false]
  exact ⟨x, List.mem_of_getElem? hx, by simp [hp]⟩
end Go.Proofs.Ythidakffgcjjiaa
