/- Memory in a walk: the blocks that the call has made and holds (with what they hold), what is pinned (read and never written), and what each kind of operation does to them. -/
import Derived.Test.YthidakffgcjjiaaEng
import Derived.Laws.AppendOwn
namespace Go.Proofs.Ythidakffgcjjiaa
open Go.RowKit Go.Sort

/-- Something that is known of memory and rests on certain blocks alone. -/
structure Pin where
  foot : Nat → Prop
  ok : World → Prop
  loc : ∀ W W', (∀ b, foot b → W'.heap[b]? = W.heap[b]?) → ok W → ok W'
  inn : ∀ W, ok W → ∀ b, foot b → b < W.heap.size

/-- The state of a walk: nothing that lay in w0 has changed; the blocks of own hold what own says, each is new and stands once; what is pinned holds, and rests on no block of own. -/
structure St (w0 : World) (own : List (Nat × Obj)) (pins : List Pin) (W : World) : Prop where
  bw : Bw w0 W
  hold : ∀ p ∈ own, W.heap[p.1]? = some p.2 ∧ w0.heap.size ≤ p.1
  nd : (own.map Prod.fst).Nodup
  pin : ∀ p ∈ pins, p.ok W ∧ ∀ b, p.foot b → b ∉ own.map Prod.fst

section
variable {w0 W W' : World} {own own' : List (Nat × Obj)} {pins pins' : List Pin} {b : Nat} {o o' : Obj}

theorem St.init (w : World) (h : ∀ p ∈ pins, p.ok w) : St w [] pins w :=
  ⟨Bw.refl w, fun _ h => (by cases h), (by simp), fun p hp => ⟨h p hp, fun _ _ => (by simp)⟩⟩
theorem St.lt (h : St w0 own pins W) {p : Nat × Obj} (hp : p ∈ own) : p.1 < W.heap.size := (Array.getElem?_eq_some_iff.1 (h.hold p hp).1).1
theorem St.at (h : St w0 own pins W) (i : Nat) (hi : own[i]? = some (b, o)) : W.heap[b]? = some o := (h.hold _ (List.mem_of_getElem? hi)).1
theorem St.ge (h : St w0 own pins W) (i : Nat) (hi : own[i]? = some (b, o)) : w0.heap.size ≤ b := (h.hold _ (List.mem_of_getElem? hi)).2
theorem St.at_lt (h : St w0 own pins W) (i : Nat) (hi : own[i]? = some (b, o)) : b < W.heap.size := h.lt (List.mem_of_getElem? hi)
theorem St.get {p : Pin} (h : St w0 own pins W) (i : Nat) (hi : pins[i]? = some p) : p.ok W := (h.pin _ (List.mem_of_getElem? hi)).1
theorem St.mem {p : Pin} (h : St w0 own pins W) (hi : p ∈ pins) : p.ok W := (h.pin _ hi).1

/-- Whatever keeps what was there keeps the state. -/
theorem St.ext (h : St w0 own pins W) (hB : Bw W W') : St w0 own pins W' where
  bw := h.bw.trans hB
  hold p hp := ⟨(hB.heap (h.lt hp)).trans (h.hold p hp).1, (h.hold p hp).2⟩
  nd := h.nd
  pin p hp := ⟨p.loc W W' (fun b hb => hB.heap (p.inn W (h.pin p hp).1 b hb)) (h.pin p hp).1, (h.pin p hp).2⟩
theorem St.adopt (h : St w0 own pins W) (hB : Bw W W') (hb : W'.heap[b]? = some o) (hn : W.heap.size ≤ b) : St w0 ((b, o) :: own) pins W' := by
  have h' := h.ext hB
  refine ⟨h'.bw, ?_, ?_, ?_⟩
  · intro p hp
    rcases List.mem_cons.1 hp with rfl | hp
    · exact ⟨hb, Nat.le_trans h.bw.size hn⟩
    · exact h'.hold p hp
  · rw [List.map_cons, List.nodup_cons]
    refine ⟨fun hm => ?_, h'.nd⟩
    obtain ⟨p, hp, hpb⟩ := List.mem_map.1 hm
    have := h.lt hp
    simp only at hpb
    omega
  · intro p hp
    refine ⟨(h'.pin p hp).1, fun k hk hm => ?_⟩
    rw [List.map_cons, List.mem_cons] at hm
    rcases hm with rfl | hm
    · have := p.inn W (h.pin p hp).1 _ hk
      omega
    · exact (h'.pin p hp).2 k hk hm
theorem St.alloc (h : St w0 own pins W) (o : Obj) : St w0 ((W.heap.size, o) :: own) pins (W.alloc o) :=
  h.adopt ((Bw.refl W).alloc o) (MapKept.heap_alloc W o).1 (Nat.le_refl _)
theorem St.drew (h : St w0 own pins W) : St w0 own pins W.drew := h.ext (Bw.refl W).drew
/-- One block of own is turned. -/
theorem St.turn (h : St w0 own pins W) (i : Nat) (hi : own[i]? = some (b, o)) (h1 : W'.os = W.os) (h2 : W'.tape = W.tape) (h3 : W'.output = W.output) (h4 : W'.heap.size = W.heap.size) (h5 : ∀ k, k ≠ b → W'.heap[k]? = W.heap[k]?) (h6 : W'.heap[b]? = some o') :
    St w0 (own.set i (b, o')) pins W' := by
  have hil : i < own.length := (List.getElem?_eq_some_iff.1 hi).1
  have hie : own[i] = (b, o) := (List.getElem?_eq_some_iff.1 hi).2
  have hmap : (own.set i (b, o')).map Prod.fst = own.map Prod.fst := by
    rw [List.map_set]
    apply List.ext_getElem
    · simp
    · intro j hj hj'
      rw [List.getElem_set]
      split
      · rename_i hji; subst hji; simp [hie]
      · rfl
  refine ⟨h.bw.turn (h.ge i hi) h1 h2 h3 h4 h5, ?_, by rw [hmap]; exact h.nd, ?_⟩
  · intro p hp
    obtain ⟨j, hj, hjp⟩ := List.getElem_of_mem hp
    rw [List.getElem_set] at hjp
    split at hjp
    · subst hjp; exact ⟨h6, h.ge i hi⟩
    · rename_i hij
      have hj' : j < own.length := by simpa using hj
      have hpm : p ∈ own := hjp ▸ List.getElem_mem hj'
      refine ⟨(h5 p.1 (fun e => ?_)).trans (h.hold p hpm).1, (h.hold p hpm).2⟩
      have := (List.getElem_inj h.nd (h₀ := by simpa using hj') (h₁ := by simpa using hil)).1 (by simp [hjp, hie, e])
      exact hij this.symm
  · intro p hp
    rw [hmap]
    refine ⟨p.loc W W' (fun k hk => h5 k (fun e => ?_)) (h.pin p hp).1, (h.pin p hp).2⟩
    subst e
    exact (h.pin p hp).2 _ hk (List.mem_map.2 ⟨_, List.mem_of_getElem? hi, rfl⟩)
/-- Something more is pinned. -/
theorem St.addPin (h : St w0 own pins W) (p : Pin) (hp : p.ok W) (hf : ∀ b, p.foot b → b ∉ own.map Prod.fst) : St w0 own (p :: pins) W :=
  ⟨h.bw, h.hold, h.nd, fun q hq => by
    rcases List.mem_cons.1 hq with rfl | hq
    · exact ⟨hp, hf⟩
    · exact h.pin q hq⟩
theorem St.again {p : Pin} (h : St w0 own pins W) (hp : p ∈ pins) : St w0 own (p :: pins) W := h.addPin p (h.pin p hp).1 (h.pin p hp).2
/-- What a call has handed back, and is new. -/
theorem St.newPin (h : St w0 own pins W) (hB : Bw W W') (p : Pin) (hp : p.ok W') (hf : ∀ b, p.foot b → W.heap.size ≤ b) : St w0 own (p :: pins) W' :=
  (h.ext hB).addPin p hp fun b hb hm => by
    obtain ⟨q, hq, hqb⟩ := List.mem_map.1 hm
    have := h.lt hq
    have := hf b hb
    omega
theorem St.pinNew {pins0 : List Pin} (h0 : St w0 own pins0 W) (h : St w0 own pins W') (p : Pin) (hp : p.ok W') (hf : ∀ b, p.foot b → W.heap.size ≤ b) : St w0 own (p :: pins) W' :=
  h.addPin p hp fun b hb hm => by
    obtain ⟨q, hq, hqb⟩ := List.mem_map.1 hm
    have := h0.lt hq
    have := hf b hb
    omega
/-- A block of own is written no more: what it tells is pinned. -/
theorem St.freeze (h : St w0 ((b, o) :: own) pins W) (p : Pin) (hp : p.ok W) (hf : ∀ k, p.foot k → k = b) : St w0 own (p :: pins) W := by
  have hnd := h.nd
  rw [List.map_cons, List.nodup_cons] at hnd
  refine ⟨h.bw, fun q hq => h.hold q (by simp [hq]), hnd.2, fun q hq => ?_⟩
  rcases List.mem_cons.1 hq with rfl | hq
  · exact ⟨hp, fun k hk => by rw [hf k hk]; exact hnd.1⟩
  · exact ⟨(h.pin q hq).1, fun k hk hm => (h.pin q hq).2 k hk (by simp only [List.map_cons, List.mem_cons]; exact .inr hm)⟩
theorem St.sub (h : St w0 own pins W) (h1 : own'.Sublist own) (h2 : ∀ p ∈ pins', p ∈ pins) : St w0 own' pins' W :=
  ⟨h.bw, fun p hp => h.hold p (h1.subset hp), (h1.map _).nodup h.nd, fun p hp => ⟨(h.pin p (h2 p hp)).1, fun b hb hm => (h.pin p (h2 p hp)).2 b hb ((h1.map _).subset hm)⟩⟩
theorem St.perm (h : St w0 own pins W) (h1 : own'.Perm own) : St w0 own' pins W :=
  ⟨h.bw, fun p hp => h.hold p (h1.subset hp), (h1.map _).nodup_iff.2 h.nd, fun p hp => ⟨(h.pin p hp).1, fun b hb hm => (h.pin p hp).2 b hb ((h1.map _).subset hm)⟩⟩
end
end Go.Proofs.Ythidakffgcjjiaa
