/- Plain laws of states: the rank of a key in a row; joins are greatest ranks, meets are least ones. -/
import Derived.Test.YthidakffgcjjiaaNorm
import Derived.Test.YthidakffgcjjiaaRights
namespace Go.Proofs.Ythidakffgcjjiaa

/-- How far a value is: a number. -/
def Vl.rank (v : Vl) : Nat := v.n.toNat * 18446744073709551616 + v.text.num
theorem Vl.rank_inj {a b : Vl} (h : a.rank = b.rank) : a = b := by
  have h1 := a.text.num_lt; have h2 := b.text.num_lt
  have h' : a.n.toNat * 18446744073709551616 + a.text.num = b.n.toNat * 18446744073709551616 + b.text.num := h
  have e1 : a.n.toNat = b.n.toNat := by omega
  have e2 : a.text.num = b.text.num := by omega
  obtain ⟨n, t⟩ := a
  obtain ⟨m, u⟩ := b
  rw [UInt64.toNat_inj] at e1
  have e3 := Nm.num_inj e2
  simp only at e1 e3
  rw [e1, e3]
theorem Vl.over_iff (a b : Vl) : a.over b = decide (b.rank ≤ a.rank) := by
  have h1 := a.text.num_lt; have h2 := b.text.num_lt
  have e : (b.n.toNat * 18446744073709551616 + b.text.num ≤ a.n.toNat * 18446744073709551616 + a.text.num) ↔ (b.n.toNat < a.n.toNat ∨ (a.n.toNat = b.n.toNat ∧ ¬ a.text.num < b.text.num)) := by
    generalize a.text.num = x at *
    generalize b.text.num = y at *
    generalize a.n.toNat = p at *
    generalize b.n.toNat = q at *
    rcases Nat.lt_trichotomy q p with h | h | h <;> omega
  rw [Bool.eq_iff_iff, decide_eq_true_iff]
  unfold Vl.rank
  rw [e]
  simp [Vl.over]
theorem Vl.more_rank (a b : Vl) : (a.more b).rank = max a.rank b.rank := by
  unfold Vl.more
  rw [Vl.over_iff]
  split
  · rename_i h; have := of_decide_eq_true h; omega
  · rename_i h; have : ¬ (b.rank ≤ a.rank) := by simpa using h
    omega

/-- How far what may be known is. -/
def rk : Option Vl → Nat
  | none => 0
  | some v => v.rank + 1
theorem rk_inj {a b : Option Vl} (h : rk a = rk b) : a = b := by
  cases a with
  | none => cases b with
    | none => rfl
    | some b => simp only [rk] at h; omega
  | some a => cases b with
    | none => simp only [rk] at h; omega
    | some b => simp only [rk] at h; rw [Vl.rank_inj (a := a) (b := b) (by omega)]
theorem look_putKv (m : List (Ky × Vl)) (k : Ky) (v : Vl) (j : Ky) : look (putKv m k v) j = if j = k then some v else look m j := by
  have hmap : ∀ m : List (Ky × Vl), (look m k).isSome = true → look (m.map (fun p => if p.1 = k then (k, v) else p)) j = if j = k then some v else look m j := by
    intro m
    induction m with
    | nil => intro h; simp [look] at h
    | cons p m ih =>
      intro h
      by_cases hp : p.1 = k
      · by_cases hj : j = k
        · subst hj; simp [look, hp]
        · have hpj : p.1 ≠ j := fun e => hj (e.symm.trans hp)
          rw [if_neg hj]
          have hne : k ≠ j := fun e => hj e.symm
          have e1 : look (p :: m) j = look m j := by unfold look; rw [List.find?_cons_of_neg (by simpa using hpj)]
          have e2 : look ((p :: m).map (fun p => if p.1 = k then (k, v) else p)) j = look (m.map (fun p => if p.1 = k then (k, v) else p)) j := by
            unfold look; rw [List.map_cons, if_pos hp, List.find?_cons_of_neg (by simpa using hne)]
          rw [e1, e2]
          by_cases hm : (look m k).isSome = true
          · rw [ih hm, if_neg hj]
          · have hnone : ∀ q ∈ m, q.1 ≠ k := by
              intro q hq e
              apply hm
              unfold look
              rw [Option.isSome_map, List.find?_isSome]
              exact ⟨q, hq, by simpa using e⟩
            congr 1
            rw [List.map_congr_left (g := id) (fun q hq => by simp [hnone q hq]), List.map_id]
      · have hmk : (look m k).isSome = true := by
          unfold look at h ⊢
          rw [List.find?_cons_of_neg (by simpa using hp)] at h
          exact h
        by_cases hpj : p.1 = j
        · have hjk : j ≠ k := fun e => hp (hpj.trans e)
          rw [if_neg hjk]
          unfold look
          rw [List.map_cons, if_neg hp, List.find?_cons_of_pos (by simpa using hpj), List.find?_cons_of_pos (by simpa using hpj)]
        · have e1 : look (p :: m) j = look m j := by unfold look; rw [List.find?_cons_of_neg (by simpa using hpj)]
          have e2 : look ((p :: m).map (fun p => if p.1 = k then (k, v) else p)) j = look (m.map (fun p => if p.1 = k then (k, v) else p)) j := by
            unfold look; rw [List.map_cons, if_neg hp, List.find?_cons_of_neg (by simpa using hpj)]
          rw [e1, e2]; exact ih hmk
  unfold putKv
  split
  · rename_i h; exact hmap m h
  · rename_i h
    have hn : look m k = none := by simpa using h
    unfold look at hn ⊢
    rw [List.find?_append]
    by_cases hj : j = k
    · subst hj
      rw [if_pos rfl]
      have : List.find? (fun p => decide (p.1 = j)) m = none := by simpa using hn
      rw [this]; simp
    · rw [if_neg hj]
      have hne : k ≠ j := fun e => hj e.symm
      cases List.find? (fun p => decide (p.1 = j)) m <;> simp [hne]
/-- How far a row is at a key. -/
def rkAt (l : List At) (k : Ky) : Nat := rk (look (known l) k)
def rkOne (a : At) (k : Ky) : Nat := if a.right = true ∧ a.k = k then a.v.rank + 1 else 0
theorem rk_upd (m : List (Ky × Vl)) (a : At) (k : Ky) : rk (look (upd m a) k) = max (rk (look m k)) (rkOne a k) := by
  unfold upd rkOne
  by_cases hr : a.right = true
  · rw [if_pos hr, look_putKv]
    by_cases hk : k = a.k
    · subst hk
      rw [if_pos rfl, if_pos ⟨hr, rfl⟩]
      cases hl : look m a.k with
      | none => simp [rk]
      | some w => simp only [rk, Vl.more_rank]; omega
    · rw [if_neg hk, if_neg (fun h => hk h.2.symm)]; omega
  · rw [if_neg hr, if_neg (fun h => hr h.1)]; omega
theorem rk_foldl (l : List At) : ∀ (m : List (Ky × Vl)) (k : Ky), rk (look (l.foldl upd m) k) = max (rk (look m k)) (rkAt l k) := by
  induction l with
  | nil => intro m k; simp [rkAt, known, look, rk]
  | cons a l ih =>
    intro m k
    have h1 := ih (upd m a) k
    have h2 := ih (upd [] a) k
    simp only [rkAt, known, List.foldl_cons] at h1 h2 ⊢
    rw [h1, h2, rk_upd, rk_upd]
    simp only [look, List.find?_nil, Option.map_none, rk]
    omega
theorem rkAt_append (a b : List At) (k : Ky) : rkAt (a ++ b) k = max (rkAt a k) (rkAt b k) := by
  have := rk_foldl b (known a) k
  simp only [rkAt, known, List.foldl_append] at this ⊢
  exact this
theorem rkAt_nil (k : Ky) : rkAt [] k = 0 := rfl
theorem rkAt_cons (a : At) (l : List At) (k : Ky) : rkAt (a :: l) k = max (rkOne a k) (rkAt l k) := by
  have := rkAt_append [a] l k
  rw [List.singleton_append] at this
  rw [this]
  have : rkAt [a] k = rkOne a k := by
    simp only [rkAt, known, List.foldl_cons, List.foldl_nil, rk_upd]
    simp [look, rk]
  rw [this]

/-- Whatever is known is right. -/
theorem known_right (l : List At) : ∀ p ∈ known l, (atOf p).right = true := by
  have hput : ∀ (m : List (Ky × Vl)) (k : Ky) (v : Vl), (∀ p ∈ m, (atOf p).right = true) → (At.mk k v).right = true → ∀ p ∈ putKv m k v, (atOf p).right = true := by
    intro m k v h1 h2 p hp
    unfold putKv at hp
    split at hp
    · obtain ⟨q, hq, hqp⟩ := List.mem_map.1 hp
      split at hqp
      · subst hqp; exact h2
      · subst hqp; exact h1 q hq
    · rcases List.mem_append.1 hp with hp | hp
      · exact h1 p hp
      · simp only [List.mem_singleton] at hp; subst hp; exact h2
  have hlook : ∀ (m : List (Ky × Vl)) (k : Ky) (v : Vl), look m k = some v → (k, v) ∈ m := by
    intro m k v h
    unfold look at h
    obtain ⟨p, hp, hv⟩ := Option.map_eq_some_iff.1 h
    have h1 := List.find?_some hp
    have h2 := List.mem_of_find?_eq_some hp
    simp only [decide_eq_true_eq] at h1
    rw [← h1, ← hv]; exact h2
  have : ∀ (l : List At) (m : List (Ky × Vl)), (∀ p ∈ m, (atOf p).right = true) → ∀ p ∈ l.foldl upd m, (atOf p).right = true := by
    intro l
    induction l with
    | nil => intro m h; exact h
    | cons a l ih =>
      intro m h
      refine ih _ ?_
      unfold upd
      split
      · rename_i hr
        refine hput m a.k _ h ?_
        cases hl : look m a.k with
        | none => exact hr
        | some was =>
          have hw := h _ (hlook m a.k was hl)
          show (At.mk a.k (was.more a.v)).right = true
          unfold Vl.more
          split
          · exact hw
          · exact hr
      · exact h
  exact this l [] (by simp)
theorem look_mem {m : List (Ky × Vl)} {k : Ky} {v : Vl} (h : look m k = some v) : (k, v) ∈ m := by
  unfold look at h
  obtain ⟨p, hp, hv⟩ := Option.map_eq_some_iff.1 h
  have h1 := List.find?_some hp
  have h2 := List.mem_of_find?_eq_some hp
  simp only [decide_eq_true_eq] at h1
  rw [← h1, ← hv]; exact h2
/-- A state: a row that rises, each atom right. -/
def IsState (s : List At) : Prop := Rising s ∧ ∀ a ∈ s, a.right = true
theorem kvp_keys (s : List At) : (s.map kvp).map Prod.fst = s.map (·.k) := by rw [List.map_map]; rfl
theorem look_eq_of_mem {m m' : List (Ky × Vl)} (h1 : (m.map Prod.fst).Nodup) (h2 : (m'.map Prod.fst).Nodup) (h : ∀ p, p ∈ m ↔ p ∈ m') (k : Ky) : look m k = look m' k := by
  cases hl : look m k with
  | some v => exact (look_some h2 ((h _).1 (look_mem hl))).symm
  | none =>
    cases hl' : look m' k with
    | none => rfl
    | some v => rw [look_some h1 ((h _).2 (look_mem hl'))] at hl; cases hl
theorem look_norm (l : List At) (k : Ky) : look ((normAt l).map kvp) k = look (known l) k := by
  refine look_eq_of_mem (by rw [kvp_keys]; exact (normAt_rising l).nodup) (known_keys l) (fun p => ?_) k
  rw [List.mem_map]
  constructor
  · rintro ⟨a, ha, rfl⟩; exact (normAt_mem l a).1 ha
  · intro hp; exact ⟨atOf p, (normAt_mem l _).2 hp, rfl⟩
theorem normAt_state (l : List At) : IsState (normAt l) := ⟨normAt_rising l, fun a ha => known_right l _ ((normAt_mem l a).1 ha)⟩
theorem rkAt_state {s : List At} (h : IsState s) (k : Ky) : rkAt s k = rk (look (s.map kvp) k) := by
  induction s with
  | nil => rfl
  | cons a s ih =>
    obtain ⟨h1, h2⟩ := List.pairwise_cons.1 h.1
    rw [rkAt_cons, ih ⟨h2, fun b hb => h.2 b (by simp [hb])⟩]
    unfold rkOne
    rw [List.map_cons]
    by_cases hk : a.k = k
    · rw [if_pos ⟨h.2 a (by simp), hk⟩]
      have hn : look (s.map kvp) k = none := look_none (fun p hp e => by
        obtain ⟨b, hb, rfl⟩ := List.mem_map.1 hp
        exact Ky.lt_ne (h1 b hb) (hk.trans e.symm))
      have hs : look (kvp a :: s.map kvp) k = some a.v := by unfold look; rw [List.find?_cons_of_pos (by simp [kvp, hk])]; rfl
      rw [hn, hs]; simp [rk]
    · rw [if_neg (fun e => hk e.2)]
      have hs : look (kvp a :: s.map kvp) k = look (s.map kvp) k := by unfold look; rw [List.find?_cons_of_neg (by simp [kvp, hk])]
      rw [hs]; omega
theorem rkAt_norm (l : List At) (k : Ky) : rkAt (normAt l) k = rkAt l k := by rw [rkAt_state (normAt_state l), look_norm]; rfl
theorem mem_of_look {s : List At} (h : Rising s) (a : At) : a ∈ s ↔ look (s.map kvp) a.k = some a.v := by
  constructor
  · intro ha; exact look_some (by rw [kvp_keys]; exact h.nodup) (List.mem_map.2 ⟨a, ha, rfl⟩)
  · intro hl
    obtain ⟨b, hb, e⟩ := List.mem_map.1 (look_mem hl)
    have : b = a := by
      obtain ⟨bk, bv⟩ := b
      obtain ⟨ak, av⟩ := a
      simp only [kvp, Prod.mk.injEq] at e
      rw [e.1, e.2]
    exact this ▸ hb
/-- States are told by their ranks. -/
theorem state_ext {s t : List At} (hs : IsState s) (ht : IsState t) (h : ∀ k, rkAt s k = rkAt t k) : s = t := by
  refine hs.1.eq ht.1 (perm_of_mem (nodup_of_map (f := (·.k)) hs.1.nodup) (nodup_of_map (f := (·.k)) ht.1.nodup) (fun a => ?_))
  rw [mem_of_look hs.1, mem_of_look ht.1]
  have := h a.k
  rw [rkAt_state hs, rkAt_state ht] at this
  rw [rk_inj this]
theorem norm_ext {l m : List At} (h : ∀ k, rkAt l k = rkAt m k) : normAt l = normAt m :=
  state_ext (normAt_state l) (normAt_state m) (fun k => by rw [rkAt_norm, rkAt_norm, h])
theorem norm_eq_iff {l m : List At} : normAt l = normAt m ↔ ∀ k, rkAt l k = rkAt m k :=
  ⟨fun h k => by rw [← rkAt_norm l, ← rkAt_norm m, h], norm_ext⟩
theorem norm_state {s : List At} (hs : IsState s) : normAt s = s := state_ext (normAt_state s) hs (fun k => rkAt_norm s k)

/-! ### Meets -/
theorem meetKv_some {m : List (Ky × Vl)} {a : At} {p : Ky × Vl} (h : meetKv m a = some p) : ∃ w, look m a.k = some w ∧ p = (a.k, if a.v.over w then w else a.v) := by
  unfold meetKv at h
  cases hl : look m a.k with
  | none => rw [hl] at h; cases h
  | some w => rw [hl] at h; cases h; exact ⟨w, rfl, rfl⟩
theorem meetAt_mem (a b : List At) (x : At) : x ∈ meetAt a b ↔ kvp x ∈ meetL (normAt a) ((normAt b).map kvp) := by
  unfold meetAt
  rw [(sortAt_perm _).mem_iff, List.mem_map]
  exact ⟨fun ⟨p, hp, e⟩ => by rw [← e]; exact hp, fun h => ⟨_, h, rfl⟩⟩
theorem meetAt_state (a b : List At) : IsState (meetAt a b) := by
  refine ⟨sortAt_rising (by rw [atOf_keys]; exact meetL_keys _ (normAt_rising a)), fun x hx => ?_⟩
  rw [meetAt_mem] at hx
  obtain ⟨y, hy, hp⟩ := List.mem_filterMap.1 hx
  obtain ⟨w, hw, he⟩ := meetKv_some hp
  have hyr := (normAt_state a).2 y hy
  obtain ⟨z, hz, hzw⟩ := List.mem_map.1 (look_mem hw)
  have hzr := (normAt_state b).2 z hz
  obtain ⟨xk, xv⟩ := x
  obtain ⟨yk, yv⟩ := y
  obtain ⟨zk, zv⟩ := z
  simp only [kvp, Prod.mk.injEq] at he hzw
  obtain ⟨e1, e2⟩ := he
  obtain ⟨e3, e4⟩ := hzw
  subst e1 e2 e3 e4
  split
  · exact hzr
  · exact hyr
theorem rkAt_meet (a b : List At) (k : Ky) : rkAt (meetAt a b) k = min (rkAt a k) (rkAt b k) := by
  rw [rkAt_state (meetAt_state a b)]
  have ha : rkAt a k = rk (look ((normAt a).map kvp) k) := by rw [look_norm]; rfl
  have hb : rkAt b k = rk (look ((normAt b).map kvp) k) := by rw [look_norm]; rfl
  have hnd : (((meetAt a b).map kvp).map Prod.fst).Nodup := by rw [kvp_keys]; exact (meetAt_state a b).1.nodup
  have hna : (((normAt a).map kvp).map Prod.fst).Nodup := by rw [kvp_keys]; exact (normAt_rising a).nodup
  rw [ha, hb]
  cases hl : look ((normAt a).map kvp) k with
  | none =>
    have : look ((meetAt a b).map kvp) k = none := look_none (fun p hp e => by
      obtain ⟨x, hx, rfl⟩ := List.mem_map.1 hp
      rw [meetAt_mem] at hx
      obtain ⟨y, hy, hq⟩ := List.mem_filterMap.1 hx
      obtain ⟨w, hw, he⟩ := meetKv_some hq
      have hyk : y.k = k := by rw [← e]; exact (congrArg Prod.fst he).symm
      have := look_some hna (List.mem_map.2 ⟨y, hy, rfl⟩)
      simp only [hyk, hl] at this
      cases this)
    rw [this]; simp [rk]
  | some v =>
    have hv := look_mem hl
    obtain ⟨y, hy, hyv⟩ := List.mem_map.1 hv
    have hyk : y.k = k := congrArg Prod.fst hyv
    have hyv' : y.v = v := congrArg Prod.snd hyv
    cases hlb : look ((normAt b).map kvp) k with
    | none =>
      have : look ((meetAt a b).map kvp) k = none := look_none (fun p hp e => by
        obtain ⟨x, hx, rfl⟩ := List.mem_map.1 hp
        rw [meetAt_mem] at hx
        obtain ⟨z, hz, hq⟩ := List.mem_filterMap.1 hx
        obtain ⟨w, hw, he⟩ := meetKv_some hq
        have hzk : z.k = k := by rw [← e]; exact (congrArg Prod.fst he).symm
        rw [hzk, hlb] at hw
        cases hw)
      rw [this]; simp [rk]
    | some w =>
      have hm : look ((meetAt a b).map kvp) k = some (if y.v.over w then w else y.v) := by
        refine look_some hnd (List.mem_map.2 ⟨⟨k, if y.v.over w then w else y.v⟩, ?_, rfl⟩)
        rw [meetAt_mem]
        refine List.mem_filterMap.2 ⟨y, hy, ?_⟩
        unfold meetKv
        rw [hyk, hlb]; rfl
      rw [hm, hyv', Vl.over_iff]
      simp only [rk]
      split
      · rename_i h; have := of_decide_eq_true h; omega
      · rename_i h; have : ¬ (w.rank ≤ v.rank) := by simpa using h
        omega
theorem leqAt_iff (a b : List At) : leqAt a b = true ↔ ∀ k, rkAt a k ≤ rkAt b k := by
  have hb : ∀ k, rkAt b k = rk (look ((normAt b).map kvp) k) := fun k => by rw [look_norm]; rfl
  have ha : ∀ k, rkAt a k = rk (look ((normAt a).map kvp) k) := fun k => by rw [look_norm]; rfl
  have hna : (((normAt a).map kvp).map Prod.fst).Nodup := by rw [kvp_keys]; exact (normAt_rising a).nodup
  unfold leqAt
  rw [List.all_eq_true]
  constructor
  · intro h k
    rw [ha, hb]
    cases hl : look ((normAt a).map kvp) k with
    | none => simp [rk]
    | some v =>
      obtain ⟨y, hy, hyv⟩ := List.mem_map.1 (look_mem hl)
      have hyk : y.k = k := congrArg Prod.fst hyv
      have hyv' : y.v = v := congrArg Prod.snd hyv
      have := h y hy
      unfold belowM at this
      rw [hyk] at this
      cases hlb : look ((normAt b).map kvp) k with
      | none => rw [hlb] at this; cases this
      | some w =>
        rw [hlb] at this
        simp only [Vl.over_iff, decide_eq_true_eq, hyv'] at this
        simp only [rk]; omega
  · intro h y hy
    have := h y.k
    rw [ha, hb, look_some hna (List.mem_map.2 ⟨y, hy, rfl⟩)] at this
    unfold belowM
    cases hlb : look ((normAt b).map kvp) y.k with
    | none => rw [hlb] at this; simp only [rk] at this; omega
    | some w =>
      rw [hlb] at this
      simp only [rk] at this
      simp only [Vl.over_iff, decide_eq_true_eq]
      omega
theorem state_latRight {s : List At} (h : IsState s) : latRight s = true := by
  unfold latRight
  rw [List.all_eq_true]
  intro k hk
  have hk := List.mem_range.1 hk
  have e1 : s.getD k default = s[k] := by simp [hk]
  unfold goodAt
  rw [e1, h.2 _ (List.getElem_mem hk), Bool.true_and, Bool.or_eq_true]
  by_cases h0 : k = 0
  · left; simpa using h0
  · right
    have e2 : s.getD (k - 1) default = s[k - 1] := by
      have : k - 1 < s.length := by omega
      simp [this]
    rw [e2]
    exact decide_eq_true ((Ky.ord_neg _ _).2 ((List.pairwise_iff_getElem.1 h.1) (k - 1) k (by omega) hk (by omega)))

/-! ### What LatLeast says -/
section
variable (a b c : List At)
theorem ll1 : latRight (normAt (a ++ b)) = true := state_latRight (normAt_state _)
theorem ll2 : latRight (meetAt a b) = true := state_latRight (meetAt_state _ _)
theorem ll3 : leqAt a (normAt (a ++ b)) = true := by rw [leqAt_iff]; intro k; rw [rkAt_norm, rkAt_append]; omega
theorem ll4 : leqAt b (normAt (a ++ b)) = true := by rw [leqAt_iff]; intro k; rw [rkAt_norm, rkAt_append]; omega
theorem ll5 : leqAt (meetAt a b) a = true := by rw [leqAt_iff]; intro k; rw [rkAt_meet]; omega
theorem ll6 : leqAt (meetAt a b) b = true := by rw [leqAt_iff]; intro k; rw [rkAt_meet]; omega
theorem ll7 (h1 : leqAt a c = true) (h2 : leqAt b c = true) : leqAt (normAt (a ++ b)) c = true := by
  rw [leqAt_iff] at *; intro k; rw [rkAt_norm, rkAt_append]; have := h1 k; have := h2 k; omega
theorem ll8 (h1 : leqAt c a = true) (h2 : leqAt c b = true) : leqAt c (meetAt a b) = true := by
  rw [leqAt_iff] at *; intro k; rw [rkAt_meet]; have := h1 k; have := h2 k; omega
theorem ll9 : normAt (a ++ b) = normAt (b ++ a) := norm_ext fun k => by rw [rkAt_append, rkAt_append]; omega
theorem ll10 : normAt (normAt (a ++ b) ++ c) = normAt (a ++ normAt (b ++ c)) := norm_ext fun k => by simp only [rkAt_append, rkAt_norm]; omega
theorem ll11 : normAt (normAt (a ++ b) ++ a) = normAt (a ++ b) := norm_ext fun k => by simp only [rkAt_append, rkAt_norm]; omega
theorem ll12 : leqAt a b = decide (normAt (a ++ b) = normAt b) := by
  rw [Bool.eq_iff_iff, leqAt_iff, decide_eq_true_iff, norm_eq_iff]
  constructor
  · intro h k; rw [rkAt_append]; have := h k; omega
  · intro h k; have := h k; rw [rkAt_append] at this; omega
theorem ll13 : (leqAt a b && leqAt b a) = decide (normAt a = normAt b) := by
  rw [Bool.eq_iff_iff, Bool.and_eq_true, leqAt_iff, leqAt_iff, decide_eq_true_iff, norm_eq_iff]
  constructor
  · intro ⟨h1, h2⟩ k; have := h1 k; have := h2 k; omega
  · intro h; exact ⟨fun k => by rw [h k]; exact Nat.le_refl _, fun k => by rw [h k]; exact Nat.le_refl _⟩
theorem ll14 : meetAt a (normAt (b ++ c)) = normAt (meetAt a b ++ meetAt a c) :=
  state_ext (meetAt_state _ _) (normAt_state _) fun k => by simp only [rkAt_append, rkAt_norm, rkAt_meet]; omega
end
end Go.Proofs.Ythidakffgcjjiaa
