/- The contracts of the small functions in the engine's words; rows of atoms as slices. -/
import Derived.Test.YthidakffgcjjiaaRule
import Derived.Test.YthidakffgcjjiaaKnown
namespace Go.Proofs.Ythidakffgcjjiaa
open Go.RowKit Go.Sort

def Ky.zero : Ky := ⟨0, 0, Nm.zero, 0, 0⟩
theorem Rows.sl {w : World} {v : Value} {l : List At} (h : Rows w v l) : Sl w v l := by
  rcases h with h | ⟨b, off, cap, h1, h2, h3, h4⟩
  · exact .inl ⟨_, _, h.1, h.2⟩
  · refine .inr ⟨b, off, cap, h1, h3, h2, fun i a hi => ⟨h2, fun j u hu => ?_⟩⟩
    have hil := (List.getElem?_eq_some_iff.1 hi).1
    have hie := (List.getElem?_eq_some_iff.1 hi).2
    refine h4 i hil j u ?_
    rw [hie, ← Array.getElem?_toList]
    exact hu
/-- Slices of slices: what each reads. -/
def SS (W : World) (vs : List Sv) (ls : List (List At)) : Prop := ∀ (i : Nat) (s : Sv) (li : List At), vs[i]? = some s → ls[i]? = some li → Sl W s.v li
def pinSS (vs : List Sv) (ls : List (List At)) : Pin where
  foot b := ∃ (i : Nat) (s : Sv) (li : List At), vs[i]? = some s ∧ ls[i]? = some li ∧ vblk s.v = some b
  ok W := SS W vs ls
  loc _ _ h hs i s li h1 h2 := (hs i s li h1 h2).kept fun b hb => h b ⟨i, s, li, h1, h2, hb⟩
  inn _ hs b := fun ⟨i, s, li, h1, h2, hb⟩ => (hs i s li h1 h2).blt b hb
theorem St.inner {w0 W : World} {own : List (Nat × Obj)} {pins : List Pin} {vs : List Sv} {ls : List (List At)} {i : Nat} {s : Sv} {li : List At} (h : St w0 own pins W) (hp : pinSS vs ls ∈ pins) (h1 : vs[i]? = some s) (h2 : ls[i]? = some li) : St w0 own (pinSl s.v li :: pins) W :=
  h.addPin _ (h.mem hp i s li h1 h2) fun b hb => (h.pin _ hp).2 b ⟨i, s, li, h1, h2, hb⟩

theorem SS.nil {W : World} : SS W [] [] := fun _ _ _ h => by cases h
theorem SS.cons {W : World} {s : Sv} {l : List At} {vs : List Sv} {ls : List (List At)} (h : Sl W s.v l) (hs : SS W vs ls) : SS W (s :: vs) (l :: ls) := fun i t li h1 h2 => by
  cases i with
  | zero => cases h1; cases h2; exact h
  | succ i => exact hs i t li (by simpa using h1) (by simpa using h2)
/-- What is handed back is new. -/
def New (w : World) (v : Value) : Prop := ∀ b, vblk v = some b → w.heap.size ≤ b

/-- A literal of one atom, in a region that draws its order. -/
theorem dr_slice1 {n : Nat} {ds : List Deferred} {l : Fr} {o : Oper} {w W : World} {a : At} {T : TypeId} {parts : Array (Nat × Operand)} (ho : o.op = .buildSlice T 1 parts) (hp : parts.toList.map (fun p => (p.1, ev n l p.2)) = [(0, .agg a.enc)])
    (hr : ∀ (a : At) (W : World), (Instr.buildSlice T 1 #[(0, .agg a.enc)]).run Try.prog W = .ok (.slice (some ⟨W.heap.size, 0, none⟩) 1 1) (W.alloc (.cells a.enc 71))) (hE : Bw w W) :
    DrRun Try.prog ((execOp (fr n ds l).eval o).run Try.prog W) W (fun v W' => Sl W' v [a] ∧ New w v) (fun _ _ => True) := by
  rw [fr_eval]
  have h1 : parts.map (fun p => (p.1, ev n l p.2)) = #[(0, .agg a.enc)] := by apply Array.ext'; simpa using hp
  have hS := ((St.init (pins := []) W (by simp)).alloc (.cells a.enc 71)).slice (α := At) (xs := [a]) (cap := 1) rfl (by simp)
  refine .inl ⟨.slice (some ⟨W.heap.size, 0, none⟩) 1 1, W.alloc (.cells a.enc 71), ?_, (Bw.refl W).alloc _, ⟨hS.get (p := pinSl _ _) 0 rfl, fun b hb => by rw [vblk_eq hb]; exact hE.size⟩, trivial⟩
  simp [execOp, ho, h1, hr]
theorem mono_sl {α : Type} [Enc α] {xs : List α} {w : World} : ∀ v W W', Bw W W' → (Sl W v xs ∧ New w v) → Sl W' v xs ∧ New w v := fun _ _ _ hB h => ⟨h.1.bw hB, h.2⟩
theorem c_atright (x : At) (w : World) : Calls Try.prog 79 #[.agg x.enc] w fun e w' => e = .returned (.bool x.right) ∧ Bw w w' := (atright_any x w).mono fun _ _ h => ⟨h.1, Bw.of h.2⟩
theorem c_over (x y : Vl) (w : World) : Calls Try.prog 74 #[.agg x.enc, .agg y.enc] w fun e w' => e = .returned (.bool (x.over y)) ∧ Bw w w' := (over_any x y w).mono fun _ _ h => ⟨h.1, Bw.of h.2⟩
theorem c_more (x y : Vl) (w : World) : Calls Try.prog 90 #[.agg x.enc, .agg y.enc] w fun e w' => e = .returned (.agg (x.more y).enc) ∧ Bw w w' := (more_any x y w).mono fun _ _ h => ⟨h.1, Bw.of h.2⟩
theorem c_kyless (x y : Ky) (w : World) : Calls Try.prog 118 #[.agg x.enc, .agg y.enc] w fun e w' => e = .returned (.bool (x.lt y)) ∧ Bw w w' := (kyless_any x y w).mono fun _ _ h => ⟨h.1, Bw.of h.2⟩
theorem c_state (b : Nat) (l : List (Ky × Vl)) (ob : Obj) (w : World) (hb : w.heap[b]? = some ob) (hM : MapObj ob l) (hl : l.length ≤ 1048576) : Calls Try.prog 75 #[.map (some b)] w fun e w' => ∃ v, e = .returned v ∧ Bw w w' ∧ Sl w' v (sortAt (l.map atOf)) ∧ New w v :=
  (state_any b l w (hM.at hb) hl).mono fun _ _ ⟨v, h1, h2, h3, n, cap, h4⟩ => ⟨v, h1, Bw.of h3, h2.sl, fun k hk => by subst h4; rw [vblk_eq hk]; exact Nat.le_refl _⟩

/-! ### What lat.All does with an atom -/
theorem upd_wrong {m : List (Ky × Vl)} {a : At} (h : a.right = false) : upd m a = m := by simp [upd, h]
theorem upd_some {m : List (Ky × Vl)} {a : At} (h : a.right = true) (hs : (look m a.k).isSome = true) : upd m a = putKv m a.k (((look m a.k).getD Vl.zero).more a.v) := by
  cases hl : look m a.k with
  | none => rw [hl] at hs; cases hs
  | some was => simp [upd, h, hl]
theorem upd_none {m : List (Ky × Vl)} {a : At} (h : a.right = true) (hs : (look m a.k).isSome = false) : upd m a = putKv m a.k a.v := by
  cases hl : look m a.k with
  | none => simp [upd, h, hl]
  | some was => rw [hl] at hs; cases hs
theorem known_at {pre li : List At} {q : Nat} {x : At} (h : li[q]? = some x) : known (pre ++ li.take (q + 1)) = upd (known (pre ++ li.take q)) x := by
  rw [List.take_add_one, h, ← List.append_assoc]
  exact known_snoc _ _
theorem flat_at {α : Type} {ls : List (List α)} {k : Nat} {li : List α} (h : ls[k]? = some li) : (ls.take (k + 1)).flatten = (ls.take k).flatten ++ li := by
  rw [List.take_add_one, h, List.flatten_append]; simp
end Go.Proofs.Ythidakffgcjjiaa
