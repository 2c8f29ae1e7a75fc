/- Maps from keys to values in memory: the predicate, and what looking up, storing and ranging do to it. -/
import Derived.Test.YthidakffgcjjiaaRights
import Derived.Maps.Range
import Derived.DeepKeys4
import Derived.Carry
namespace Go.Proofs.Ythidakffgcjjiaa
open Go.RowKit Go.Sort
open Go.ChangeMaps (setBlock)
theorem laidOutT : laidOutB Try.prog = true := by kernel_rfl
theorem keyT61 : Try.prog.keyTypeAt 6 61 = true := by kernel_rfl
theorem keyT61' : Try.prog.keyType 61 = true := by kernel_rfl
theorem row61 : (61 : TypeId) < Try.prog.types.size := of_decide_eq_true (by kernel_rfl)
theorem keyed61 : Maps.Keyed Try.prog 61 := Maps.Keyed.of_law (deep_law_laid laidOutT (m := 6) (by omega) row61 keyT61 (by rw [Try.underlying61]))
theorem formed61 (k : Ky) : (Value.agg k.enc).formed Try.prog 61 = true := by simp [Value.formed, Try.underlying61, Try.cells61]
theorem keyOf61 (k : Ky) : keyOf Try.prog 61 (.agg k.enc) = some (.string (keyBytes k.lits)) := by
  have h := lits61 (Try.prog.types.size - 2) k
  have hs : Try.prog.types.size - 2 + 3 = Try.prog.types.size + 1 := by have : 61 < Try.prog.types.size := row61; omega
  rw [hs] at h
  unfold keyOf
  simp only [Try.underlying61]
  rw [if_pos (by rw [keyT61', formed61]; rfl)]
  show (Try.prog.keyLits (Try.prog.types.size + 1) 61 k.enc.toList).map _ = _
  rw [h]
  rfl
theorem Ky.enc_inj {a b : Ky} (h : a.enc = b.enc) : a = b := by
  have ha := lits61 0 a
  have hb := lits61 0 b
  rw [h, hb] at ha
  exact (Ky.lits_inj a b).1 (Option.some.inj ha).symm

/-- The last that is known of a key. -/
def look (l : List (Ky × Vl)) (k : Ky) : Option Vl := (l.find? (fun p => decide (p.1 = k))).map (·.2)
/-- A key's value is stored: in its place, or behind the others. -/
def putKv (l : List (Ky × Vl)) (k : Ky) (v : Vl) : List (Ky × Vl) := if (look l k).isSome then l.map (fun p => if p.1 = k then (k, v) else p) else l ++ [(k, v)]

def kvOf (p : Ky × Vl) : Value × Value := (.agg p.1.enc, .agg p.2.enc)

/-- Block b is a map that holds the entries l, no key twice. -/
def MapAt (w : World) (b : Nat) (l : List (Ky × Vl)) : Prop :=
  ∃ es clock, w.heap[b]? = some (.map es clock) ∧ es.toList.map (fun e => (e.key, e.val)) = l.map kvOf ∧ (l.map Prod.fst).Nodup ∧ (∀ e ∈ es.toList, e.born < clock) ∧ (es.toList.map (·.born)).Nodup

theorem MapAt.lt {w : World} {b : Nat} {l : List (Ky × Vl)} (h : MapAt w b l) : b < w.heap.size := by
  obtain ⟨es, clock, hb, _⟩ := h
  exact (Array.getElem?_eq_some_iff.1 hb).1
theorem MapAt.kept {w w' : World} {b : Nat} {l : List (Ky × Vl)} (h : MapAt w b l) (hk : w'.heap[b]? = w.heap[b]?) : MapAt w' b l := by
  obtain ⟨es, clock, hb, r⟩ := h
  exact ⟨es, clock, hk.trans hb, r⟩
theorem MapAt.ext {w w' : World} {b : Nat} {l : List (Ky × Vl)} (h : MapAt w b l) (hE : Ext w w') : MapAt w' b l := h.kept (hE.heap h.lt)
theorem MapAt.nodup {w : World} {b : Nat} {l : List (Ky × Vl)} (h : MapAt w b l) : (l.map Prod.fst).Nodup := by
  obtain ⟨_, _, _, _, h, _⟩ := h
  exact h
theorem MapAt.new (w : World) : MapAt (w.alloc (.map #[] 0)) w.heap.size [] := by
  refine ⟨#[], 0, ?_, rfl, by simp, by simp, by simp⟩
  exact (MapKept.heap_alloc w _).1

theorem look_none {l : List (Ky × Vl)} {k : Ky} (h : ∀ p ∈ l, p.1 ≠ k) : look l k = none := by
  unfold look
  rw [List.find?_eq_none.2 (fun p hp => by simpa using h p hp)]
  rfl
theorem look_some {l : List (Ky × Vl)} {k : Ky} {v : Vl} (hn : (l.map Prod.fst).Nodup) (h : (k, v) ∈ l) : look l k = some v := by
  induction l with
  | nil => cases h
  | cons p l ih =>
    rw [List.map_cons, List.nodup_cons] at hn
    rcases List.mem_cons.1 h with rfl | h
    · simp [look]
    · have hne : p.1 ≠ k := fun e => hn.1 (e ▸ List.mem_map.2 ⟨(k, v), h, rfl⟩)
      have := ih hn.2 h
      unfold look at this ⊢
      rw [List.find?_cons_of_neg (by simpa using hne)]
      exact this

theorem mem_kv {es : List MapEntry} {l : List (Ky × Vl)} (h : es.map (fun e => (e.key, e.val)) = l.map kvOf) {e : MapEntry} (he : e ∈ es) : ∃ p ∈ l, e.key = .agg p.1.enc ∧ e.val = .agg p.2.enc := by
  have : (e.key, e.val) ∈ l.map kvOf := by rw [← h]; exact List.mem_map.2 ⟨e, he, rfl⟩
  obtain ⟨p, hp, hpe⟩ := List.mem_map.1 this
  simp only [kvOf, Prod.mk.injEq] at hpe
  exact ⟨p, hp, hpe.1.symm, hpe.2.symm⟩
theorem get_kv {es : List MapEntry} {l : List (Ky × Vl)} (h : es.map (fun e => (e.key, e.val)) = l.map kvOf) {j : Nat} {e : MapEntry} (he : es[j]? = some e) : ∃ p, l[j]? = some p ∧ e.key = .agg p.1.enc ∧ e.val = .agg p.2.enc := by
  have h1 : (es.map (fun e => (e.key, e.val)))[j]? = some (e.key, e.val) := by rw [List.getElem?_map, he]; rfl
  rw [h, List.getElem?_map] at h1
  cases hl : l[j]? with
  | none => rw [hl] at h1; cases h1
  | some p =>
    rw [hl] at h1
    simp only [Option.map_some, Option.some.injEq, kvOf, Prod.mk.injEq] at h1
    exact ⟨p, rfl, h1.1.symm, h1.2.symm⟩

/-- How findKey finds. -/
theorem find61 (w : World) (k : Ky) {es : List MapEntry} {l : List (Ky × Vl)} (h : es.map (fun e => (e.key, e.val)) = l.map kvOf) (hn : (l.map Prod.fst).Nodup) :
    ((Instr.findKey 61 (.agg k.enc) es).run Try.prog w = .ok none w ∧ look l k = none ∧ ∀ e ∈ es, e.key ≠ .agg k.enc) ∨
    ∃ j e v, (Instr.findKey 61 (.agg k.enc) es).run Try.prog w = .ok (some (j, .agg v.enc)) w ∧ es[j]? = some e ∧ e.key = .agg k.enc ∧ l[j]? = some (k, v) ∧ look l k = some v := by
  rcases keyed61.find w (keyOf61 k) es (fun e he => by obtain ⟨p, _, hk, _⟩ := mem_kv h he; exact ⟨_, by rw [hk]; exact keyOf61 p.1⟩) with ⟨h1, h2⟩ | ⟨j, e, h1, h2, h3⟩
  · refine .inl ⟨h1, look_none (fun p hp e => ?_), h2⟩
    have : kvOf p ∈ es.map (fun e => (e.key, e.val)) := by rw [h]; exact List.mem_map.2 ⟨p, hp, rfl⟩
    obtain ⟨x, hx, hxe⟩ := List.mem_map.1 this
    simp only [kvOf, Prod.mk.injEq] at hxe
    exact h2 x hx (by rw [hxe.1, e])
  · obtain ⟨p, hp, hpk, hpv⟩ := get_kv h h2
    have hpe : p.1 = k := Ky.enc_inj (by rw [hpk] at h3; exact Value.agg.inj h3)
    refine .inr ⟨j, e, p.2, by rw [h1, hpv], h2, h3, ?_, look_some hn ?_⟩
    · rw [hp, ← hpe]
    · rw [← hpe]; exact List.mem_of_getElem? hp

def Vl.zero : Vl := ⟨0, Nm.zero⟩
theorem zero67 (w : World) : (zeroValue 67).run Try.prog w = .ok (.agg Vl.zero.enc) w := by kernel_rfl

theorem MapAt.lookup {w : World} {b : Nat} {l : List (Ky × Vl)} (h : MapAt w b l) (k : Ky) :
    (Instr.lookup 82 (.map (some b)) (.agg k.enc) true).run Try.prog w = .ok (.tuple #[.agg ((look l k).getD Vl.zero).enc, .bool (look l k).isSome]) w := by
  obtain ⟨es, clock, hb, hl, hn, _, _⟩ := h
  rcases find61 w k hl hn with ⟨h1, h2, _⟩ | ⟨j, e, v, h1, _, _, _, h2⟩
  · simp [Instr.lookup, run_underlying Try.underlying82, MapKept.run_getObj_map hb, keyed61.check w _ (keyOf61 k), h1, h2, zero67, Result.andThen]
    rfl
  · simp [Instr.lookup, run_underlying Try.underlying82, MapKept.run_getObj_map hb, keyed61.check w _ (keyOf61 k), h1, h2, Result.andThen]

theorem put_keys_some {l : List (Ky × Vl)} {k : Ky} {v : Vl} : (l.map (fun p => if p.1 = k then (k, v) else p)).map Prod.fst = l.map Prod.fst := by
  rw [List.map_map]
  refine List.map_congr_left (fun p _ => ?_)
  simp only [Function.comp_apply]
  split
  · rename_i h; exact h.symm
  · rfl

theorem MapAt.update {w : World} {b : Nat} {l : List (Ky × Vl)} (h : MapAt w b l) (k : Ky) (v : Vl) :
    ∃ o, (Instr.mapUpdate 82 (.map (some b)) (.agg k.enc) (.agg v.enc)).run Try.prog w = .ok () (setBlock w b o) ∧ MapAt (setBlock w b o) b (putKv l k v) := by
  have hlt := h.lt
  obtain ⟨es, clock, hb, hl, hn, hs, hbn⟩ := h
  have hnew : ∀ o, (setBlock w b o).heap[b]? = some o := fun o => by simp [setBlock, hlt]
  rcases find61 w k hl hn with ⟨h1, h2, h3⟩ | ⟨j, e, v0, h1, h2, h3, h4, h5⟩
  · refine ⟨.map (es.push ⟨.agg k.enc, .agg v.enc, clock⟩) (clock + 1), ?_, ?_⟩
    · simp [Instr.mapUpdate, run_underlying Try.underlying82, MapKept.run_getObj_map hb, keyed61.check w false (keyOf61 k), h1, MapKept.run_setObj_map _ hb, Result.andThen, setBlock]
    · refine ⟨_, _, hnew _, ?_, ?_, ?_, ?_⟩
      · simp only [putKv, h2, Option.isSome_none, Bool.false_eq_true, if_false, Array.toList_push, List.map_append, hl, List.map_cons, List.map_nil, kvOf]
      · simp only [putKv, h2, Option.isSome_none, Bool.false_eq_true, if_false, List.map_append, List.map_cons, List.map_nil]
        rw [List.nodup_append]
        refine ⟨hn, by simp, fun x hx y hy e => ?_⟩
        simp only [List.mem_singleton] at hy
        obtain ⟨p, hp, rfl⟩ := List.mem_map.1 hx
        have : look l k = some p.2 := look_some hn (by rw [← hy, ← e]; exact hp)
        rw [h2] at this
        cases this
      · intro x hx
        simp only [Array.toList_push, List.mem_append, List.mem_singleton] at hx
        rcases hx with hx | rfl
        · have := hs x hx; omega
        · exact Nat.lt_succ_self _
      · simp only [Array.toList_push, List.map_append, List.map_cons, List.map_nil]
        rw [List.nodup_append]
        refine ⟨hbn, by simp, fun x hx y hy e => ?_⟩
        simp only [List.mem_singleton] at hy
        obtain ⟨p, hp, rfl⟩ := List.mem_map.1 hx
        have := hs p hp
        omega
  · have hj : es[j]? = some e := by simpa using h2
    have hjl : j < es.toList.length := (List.getElem?_eq_some_iff.1 h2).1
    refine ⟨.map (es.modify j (fun e' => { e' with key := .agg k.enc, val := .agg v.enc })) clock, ?_, ?_⟩
    · simp [Instr.mapUpdate, run_underlying Try.underlying82, MapKept.run_getObj_map hb, keyed61.check w false (keyOf61 k), h1, hj, h3, keyed61.stays w (keyOf61 k), MapKept.run_setObj_map _ hb, Result.andThen, setBlock]
    · have hlist : (es.modify j (fun e' => { e' with key := .agg k.enc, val := .agg v.enc })).toList = es.toList.set j { e with key := .agg k.enc, val := .agg v.enc } := by rw [Array.toList_modify, ChangeMaps.modify_eq_set _ _ _ _ h2]
      have hput : putKv l k v = l.set j (k, v) := by
        simp only [putKv, h5, Option.isSome_some, if_true]
        apply List.ext_getElem
        · simp
        · intro i hi hi'
          simp only [List.getElem_map, List.getElem_set]
          have hil : i < l.length := by simpa using hi
          have hjl' : j < l.length := (List.getElem?_eq_some_iff.1 h4).1
          have hlj : l[j] = (k, v0) := (List.getElem?_eq_some_iff.1 h4).2
          by_cases hji : j = i
          · subst hji
            simp [hlj]
          · rw [if_neg hji, if_neg]
            intro e1
            have h6 : (l.map Prod.fst)[i]'(by simpa using hil) = (l.map Prod.fst)[j]'(by simpa using hjl') := by simp [e1, hlj]
            exact hji ((List.getElem_inj hn).1 h6).symm
      refine ⟨_, _, hnew _, ?_, ?_, ?_, ?_⟩
      · rw [hlist, List.map_set, hl, hput, List.map_set]
        rfl
      · simp only [putKv, h5, Option.isSome_some, if_true, put_keys_some]
        exact hn
      · intro x hx
        rw [hlist] at hx
        rcases List.mem_or_eq_of_mem_set hx with hx | rfl
        · exact hs x hx
        · exact hs e (List.mem_of_getElem? h2)
      · have : (es.toList.set j { e with key := .agg k.enc, val := .agg v.enc }).map (·.born) = es.toList.map (·.born) := by
          rw [List.map_set]
          apply List.ext_getElem
          · simp
          · intro i hi hi'
            rw [List.getElem_set]
            split
            · rename_i hji; subst hji
              have := (List.getElem?_eq_some_iff.1 h2).2
              simp [← this]
            · rfl
        rw [hlist, this]
        exact hbn

/-! ### Ranging over a map -/
theorem keys_apart {es : List MapEntry} {l : List (Ky × Vl)} (h : es.map (fun e => (e.key, e.val)) = l.map kvOf) (hn : (l.map Prod.fst).Nodup) : (es.map (·.key)).Nodup := by
  have h1 : es.map (·.key) = (l.map Prod.fst).map (fun k => Value.agg k.enc) := by
    have := congrArg (List.map Prod.fst) h
    simpa [List.map_map, Function.comp_def, kvOf] using this
  rw [h1]
  rw [List.Nodup, List.pairwise_map]
  exact hn.imp (fun hab e => hab (Ky.enc_inj (Value.agg.inj e)))
theorem eq_of_map_nodup {α β : Type} {f : α → β} : ∀ {l : List α}, (l.map f).Nodup → ∀ {x y : α}, x ∈ l → y ∈ l → f x = f y → x = y
  | [], _, _, _, hx, _, _ => by cases hx
  | a :: l, hn, x, y, hx, hy, h => by
    rw [List.map_cons, List.nodup_cons] at hn
    rcases List.mem_cons.1 hx with rfl | hx' <;> rcases List.mem_cons.1 hy with rfl | hy'
    · rfl
    · exact absurd (List.mem_map.2 ⟨y, hy', h.symm⟩) hn.1
    · exact absurd (List.mem_map.2 ⟨x, hx', h⟩) hn.1
    · exact eq_of_map_nodup hn.2 hx' hy' h
theorem perm_of_mem {α : Type} [DecidableEq α] : ∀ {l₁ l₂ : List α}, l₁.Nodup → l₂.Nodup → (∀ a, a ∈ l₁ ↔ a ∈ l₂) → l₁.Perm l₂
  | [], l₂, _, _, h => by
    cases l₂ with
    | nil => exact .refl _
    | cons a l => exact absurd ((h a).2 (by simp)) (by simp)
  | a :: l, l₂, h1, h2, h => by
    have ha : a ∈ l₂ := (h a).1 (by simp)
    obtain ⟨ha1, hl⟩ := List.nodup_cons.1 h1
    refine .trans (.cons a (perm_of_mem hl (h2.erase a) (fun b => ?_))) (List.perm_cons_erase ha).symm
    rw [h2.mem_erase_iff]
    constructor
    · intro hb
      exact ⟨fun e => ha1 (e ▸ hb), (h b).1 (by simp [hb])⟩
    · rintro ⟨hne, hb⟩
      rcases List.mem_cons.1 ((h b).2 hb) with e | hb'
      · exact absurd e hne
      · exact hb'
theorem nodup_of_map {α β : Type} {f : α → β} {l : List α} (h : (l.map f).Nodup) : l.Nodup := by
  rw [List.Nodup, List.pairwise_map] at h
  exact h.imp (fun hab e => hab (by rw [e]))

/-- Block r is an iterator over the map in block b, which holds l; done has come. -/
def IterAt (w : World) (r b : Nat) (l done : List (Ky × Vl)) : Prop :=
  ∃ es clock since seen c0, w.heap[b]? = some (.map es clock) ∧ es.toList.map (fun e => (e.key, e.val)) = l.map kvOf ∧ (l.map Prod.fst).Nodup ∧ (es.toList.map (·.born)).Nodup ∧
    w.heap[r]? = some (.mapIter (some b) since seen c0) ∧ (∀ e ∈ es.toList, e.born < since) ∧ since ≤ c0 ∧ since ≤ clock ∧
    (done.map Prod.fst).Nodup ∧ (∀ p ∈ done, p ∈ l) ∧ (∀ e ∈ es.toList, seen.contains e.born = true ↔ ∃ p ∈ done, e.key = .agg p.1.enc)

theorem IterAt.lt {w : World} {r b : Nat} {l done : List (Ky × Vl)} (h : IterAt w r b l done) : b < w.heap.size ∧ r < w.heap.size := by
  obtain ⟨es, clock, since, seen, c0, hb, _, _, _, hr, _⟩ := h
  exact ⟨(Array.getElem?_eq_some_iff.1 hb).1, (Array.getElem?_eq_some_iff.1 hr).1⟩
theorem IterAt.kept {w w' : World} {r b : Nat} {l done : List (Ky × Vl)} (h : IterAt w r b l done) (hb : w'.heap[b]? = w.heap[b]?) (hr : w'.heap[r]? = w.heap[r]?) : IterAt w' r b l done := by
  obtain ⟨es, clock, since, seen, c0, h1, h2, h3, h4, h5, h6⟩ := h
  exact ⟨es, clock, since, seen, c0, hb.trans h1, h2, h3, h4, hr.trans h5, h6⟩
theorem IterAt.ext {w w' : World} {r b : Nat} {l done : List (Ky × Vl)} (h : IterAt w r b l done) (hE : Ext w w') : IterAt w' r b l done := h.kept (hE.heap h.lt.1) (hE.heap h.lt.2)
theorem IterAt.count {w : World} {r b : Nat} {l done : List (Ky × Vl)} (h : IterAt w r b l done) : done.length ≤ l.length := by
  obtain ⟨_, _, _, _, _, _, _, h3, _, _, _, _, _, h7, h8, _⟩ := h
  have hs : done ⊆ l := h8
  exact (nodup_of_map h7).length_le_of_subset hs

theorem MapAt.range {w : World} {b : Nat} {l : List (Ky × Vl)} (h : MapAt w b l) :
    ∃ o, (Instr.range 82 (.map (some b))).run Try.prog w = .ok (.pointer (some ⟨w.heap.size, 0, none⟩)) (w.alloc o) ∧ IterAt (w.alloc o) w.heap.size b l [] := by
  have hlt := h.lt
  obtain ⟨es, clock, hb, hl, hn, hs, hbn⟩ := h
  refine ⟨_, run_range_map w 82 61 67 b es clock Try.underlying82 hb, es, clock, clock, #[], clock, ((MapKept.heap_alloc w _).2 b hlt).trans hb, hl, hn, hbn, (MapKept.heap_alloc w _).1, hs, Nat.le_refl _, Nat.le_refl _, by simp, by simp, fun e _ => by simp⟩

theorem IterAt.next {w : World} {r b : Nat} {l done : List (Ky × Vl)} (h : IterAt w r b l done) (ty : TypeId) :
    (done.Perm l ∧ (Instr.next (.pointer (some ⟨r, 0, none⟩)) false ty).run Try.prog w = .ok (.tuple #[.bool false]) w) ∨
    ∃ p w1 o, (w1 = w ∨ w1 = w.drew) ∧ (Instr.next (.pointer (some ⟨r, 0, none⟩)) false ty).run Try.prog w = .ok (.tuple #[.bool true, .agg p.1.enc, .agg p.2.enc]) (setBlock w1 r o) ∧
      IterAt (setBlock w1 r o) r b l (done ++ [p]) ∧ (Instr.entry (.pointer (some ⟨r, 0, none⟩))).run Try.prog (setBlock w1 r o) = .ok (.tuple #[.agg p.1.enc, .agg p.2.enc]) (setBlock w1 r o) := by
  have hlt := h.lt
  obtain ⟨es, clock, since, seen, c0, hb, hl, hn, hbn, hr, hold, hsc, hck, hdn, hdl, hseen⟩ := h
  rcases run_next_at (P := Try.prog) w ty r b since c0 seen es clock hr hb hold hsc with ⟨h0, hrun⟩ | ⟨e, he, w1, hal, hrun⟩
  · refine .inl ⟨perm_of_mem (nodup_of_map hdn) (nodup_of_map hn) (fun p => ⟨fun hp => hdl p hp, fun hp => ?_⟩), hrun⟩
    have : kvOf p ∈ es.toList.map (fun e => (e.key, e.val)) := by rw [hl]; exact List.mem_map.2 ⟨p, hp, rfl⟩
    obtain ⟨x, hx, hxe⟩ := List.mem_map.1 this
    obtain ⟨q, hq, hqk⟩ := (hseen x hx).1 (by have := all_seen es seen h0 x hx; simpa using this)
    simp only [kvOf, Prod.mk.injEq] at hxe
    have hqp : q.1 = p.1 := Ky.enc_inj (by rw [hxe.1] at hqk; exact (Value.agg.inj hqk).symm)
    have := eq_of_map_nodup hn (hdl q hq) hp hqp
    rw [← this]; exact hq
  · obtain ⟨hem, hes⟩ := mem_left he
    obtain ⟨p, hp, hpk, hpv⟩ := mem_kv hl hem
    have hb1 : w1.heap[b]? = some (.map es clock) := by rcases hal with rfl | rfl <;> exact hb
    have hr1 : w1.heap[r]? = some (.mapIter (some b) since seen c0) := by rcases hal with rfl | rfl <;> exact hr
    have hne : r ≠ b := fun e1 => by rw [e1, hb] at hr; cases hr
    have hrl : r < w1.heap.size := (Array.getElem?_eq_some_iff.1 hr1).1
    have hb' : (setBlock w1 r (.mapIter (some b) since (seen.push e.born) clock)).heap[b]? = some (.map es clock) := by simp [setBlock, hne, hb1]
    have hr' : (setBlock w1 r (.mapIter (some b) since (seen.push e.born) clock)).heap[r]? = some (.mapIter (some b) since (seen.push e.born) clock) := by simp [setBlock, hrl]
    rw [hpk, hpv] at hrun
    refine .inr ⟨p, w1, _, hal, hrun, ⟨es, clock, since, seen.push e.born, clock, hb', hl, hn, hbn, hr', hold, hck, hck, ?_, ?_, ?_⟩, ?_⟩
    · rw [List.map_append, List.nodup_append]
      refine ⟨hdn, by simp, fun x hx y hy exy => ?_⟩
      simp only [List.map_cons, List.map_nil, List.mem_singleton] at hy
      obtain ⟨q, hq, rfl⟩ := List.mem_map.1 hx
      have : seen.contains e.born = true := (hseen e hem).2 ⟨q, hq, by rw [hpk, exy, hy]⟩
      rw [hes] at this
      cases this
    · intro q hq
      rcases List.mem_append.1 hq with hq | hq
      · exact hdl q hq
      · simp only [List.mem_singleton] at hq
        rw [hq]; exact hp
    · intro x hx
      have hc : (seen.push e.born).contains x.born = (seen.contains x.born || x.born == e.born) := by
        rw [Bool.eq_iff_iff]
        simp [Array.contains_push, or_comm]
      rw [hc, Bool.or_eq_true]
      constructor
      · rintro (h1 | h1)
        · obtain ⟨q, hq, hqk⟩ := (hseen x hx).1 h1
          exact ⟨q, by simp [hq], hqk⟩
        · have : x = e := eq_of_map_nodup hbn hx hem (by simpa using h1)
          exact ⟨p, by simp, by rw [this, hpk]⟩
      · rintro ⟨q, hq, hqk⟩
        rcases List.mem_append.1 hq with hq | hq
        · exact .inl ((hseen x hx).2 ⟨q, hq, hqk⟩)
        · simp only [List.mem_singleton] at hq
          have : x = e := eq_of_map_nodup (keys_apart hl hn) hx hem (by rw [hqk, hq, hpk])
          exact .inr (by simp [this])
    · have := run_entry_at (P := Try.prog) _ r b since seen es clock e hr' hb' hem hbn
      rw [hpk, hpv] at this
      exact this
end Go.Proofs.Ythidakffgcjjiaa
