/- An engine for walks: frames as lists of slots and values, rules for code, one rule for an operation that gives a value, calls, loops. Rounds of ranges over functions are walked by the same rules. -/
import Derived.Test.YthidakffgcjjiaaBase
import Derived.TacticsIn
import Derived.OrdersIn
namespace Go.Proofs.Ythidakffgcjjiaa
open Go.RowKit Go.Sort

/-! ### The fence that lets all in -/
def FW (r : Option Nat) : Fence := { fn := fun _ => True, depth := none, alive := false, round := r }
theorem FW_none : FW none = Fence.wide := rfl
theorem FW_inRound (r : Option Nat) (l : Nat) : (FW r).inRound l = FW (some l) := rfl
theorem FW_room (r : Option Nat) (n : Nat) : (FW r).room n := fun _ h => by simp [FW] at h
abbrev Post := Exit → Act → World → Prop
def WP (r : Option Nat) (c : Code) (Q : Post) (a : Act) (w : World) : Prop := c.wpIn (FW r) 0 Try.prog Q a w
def WL (r : Option Nat) (ops : Array Oper) (Q : Post) (l : List Oper) (a : Act) (w : World) : Prop := wpListIn (FW r) 0 Try.prog ops Q l a w

theorem calls_in {r : Option Nat} {n : Nat} {f : FuncId} {args : Array Value} {w : World} {R : Ending → World → Prop} (h : Calls Try.prog f args w R) : CallsIn (FW r) n Try.prog f args w R :=
  (callsIn_wide (n := n)).2 h

/-! ### Worlds in which nothing that was there has changed -/
def Bw (w w' : World) : Prop := RowKit.Below w.heap.size w w'
theorem Bw.refl (w : World) : Bw w w := RowKit.Below.refl _ _
theorem Bw.size {w w' : World} (h : Bw w w') : w.heap.size ≤ w'.heap.size := RowKit.Below.size h
theorem Bw.trans {a b c : World} (h : Bw a b) (k : Bw b c) : Bw a c := RowKit.Below.trans h (RowKit.Below.mono k h.size)
theorem Bw.heap {w w' : World} (h : Bw w w') {k : Nat} (hk : k < w.heap.size) : w'.heap[k]? = w.heap[k]? := RowKit.Below.block h k hk
theorem Bw.alloc {a w : World} (h : Bw a w) (o : Obj) : Bw a (w.alloc o) := RowKit.Below.alloc h h.size o
theorem Bw.drew {a w : World} (h : Bw a w) : Bw a w.drew := RowKit.Below.drew h
theorem Bw.draw (w : World) : Bw w { w with drawn := w.drawn + 1 } := (Bw.refl w).drew
theorem Bw.of {w w' : World} (h : Ext w w') : Bw w w' := h.below
theorem Bw.cell {w w' : World} (h : Bw w w') {a : Addr} (hk : a.block < w.heap.size) : w'.cell? a = w.cell? a := by
  simp only [World.cell?, h.heap hk]
theorem Bw.bcell {w w' : World} (h : Bw w w') : ∀ b o, b < w.heap.size → w'.cell? ⟨b, o, none⟩ = w.cell? ⟨b, o, none⟩ := fun b o hb => h.cell (a := ⟨b, o, none⟩) hb
/-- What turns one block that was not there. -/
theorem Bw.turn {a w w' : World} (h : Bw a w) {b : Nat} (hb : a.heap.size ≤ b) (h1 : w'.os = w.os) (h2 : w'.tape = w.tape) (h3 : w'.output = w.output) (h4 : w'.heap.size = w.heap.size) (h5 : ∀ k, k ≠ b → w'.heap[k]? = w.heap[k]?) : Bw a w' :=
  ⟨h1.trans h.os, h2.trans h.tape, h3.trans h.output, by rw [h4]; exact h.size, fun k hk => (h5 k (by omega)).trans (h.heap hk)⟩

/-! ### Frames -/
abbrev Fr := List (Nat × Value)
def look' : Fr → Nat → Value
  | [], _ => undef
  | (k, v) :: l, t => bif Nat.beq k t then v else look' l t
def fr (n : Nat) (ds : List Deferred) (l : Fr) : Act := ⟨((List.range n).map (look' l)).toArray, ds⟩
def ev (n : Nat) (l : Fr) : Operand → Value
  | .tmp t => bif Nat.blt t n then look' l t else undef
  | .const v => v
  | .global g => .pointer (some ⟨g, 0, none⟩)
  | .func f => .func (.func f) #[] #[]
theorem fr_get (n : Nat) (ds : List Deferred) (l : Fr) (t : Nat) : (fr n ds l).tmps[t]? = if t < n then some (look' l t) else none := by
  unfold fr
  by_cases h : t < n
  · simp [h]
  · simp [h]
theorem blt_iff {a b : Nat} : Nat.blt a b = true ↔ a < b := by simp [Nat.blt, Nat.lt_iff_add_one_le]
theorem fr_eval (n : Nat) (ds : List Deferred) (l : Fr) : (fr n ds l).eval = ev n l := by
  funext x
  cases x with
  | tmp t =>
    simp only [Act.eval, ev, Array.getD_eq_getD_getElem?, fr_get]
    by_cases h : t < n
    · simp [h, blt_iff.2 h]
    · have : Nat.blt t n = false := by
        cases h' : Nat.blt t n
        · rfl
        · exact absurd (blt_iff.1 h') h
      simp [h, this]
  | const v => rfl
  | global g => rfl
  | func f => rfl
theorem fr_put {n : Nat} {ds : List Deferred} {l : Fr} {d : Nat} {v : Value} (h : Nat.blt d n = true) : (fr n ds l).put (some d) v = fr n ds ((d, v) :: l) := by
  unfold Act.put fr
  simp only [Act.mk.injEq, and_true]
  apply Array.ext
  · simp
  · intro i h1 h2
    have hi : i < n := by simpa using h1
    simp only [Array.getElem_setIfInBounds h1, List.getElem_toArray, List.getElem_map, List.getElem_range, look']
    by_cases hd : d = i
    · subst hd
      simp
    · have : Nat.beq d i = false := by
        cases hb : Nat.beq d i
        · rfl
        · exact absurd (Nat.eq_of_beq_eq_true hb) hd
      simp [hd, this]
/-- A slot's value is said once more, in front. -/
theorem fr_again {n : Nat} {ds : List Deferred} {l : Fr} {t : Nat} {v : Value} (h : look' l t = v) : fr n ds l = fr n ds ((t, v) :: l) := by
  unfold fr
  simp only [Act.mk.injEq, and_true]
  congr 1
  apply List.map_congr_left
  intro i _
  simp only [look']
  cases hb : Nat.beq t i
  · rfl
  · rw [← Nat.eq_of_beq_eq_true hb, h]; rfl
/-- Slots are said once more, in front, from the last to the first. -/
theorem fr_agains {n : Nat} {ds : List Deferred} {l : Fr} : ∀ (k : Fr), (k.all fun p => true) = true → (∀ p ∈ k, look' l p.1 = p.2) → fr n ds l = fr n ds (k ++ l)
  | [], _, _ => rfl
  | p :: k, h1, h => by
    rw [fr_agains k (by simp) (fun q hq => h q (by simp [hq]))]
    have : look' (k ++ l) p.1 = p.2 := by
      have hp := h p (by simp)
      have key : ∀ (k : Fr), (∀ q ∈ k, look' l q.1 = q.2) → look' (k ++ l) p.1 = look' l p.1 := by
        intro k
        induction k with
        | nil => intro _; rfl
        | cons q k ih =>
          intro hq
          simp only [List.cons_append, look']
          cases hb : Nat.beq q.1 p.1
          · exact ih (fun q' hq' => hq q' (by simp [hq']))
          · rw [← Nat.eq_of_beq_eq_true hb, hq q (by simp)]; rfl
      rw [key k (fun q hq => h q (by simp [hq])), hp]
    exact fr_again (t := p.1) (v := p.2) this
theorem fr_init (n : Nat) (args : Array Value) (h : args.size ≤ n) : ({ tmps := args ++ Array.replicate (n - args.size) undef, defers := [] } : Act) = fr n [] (args.toList.zipIdx.map fun p => (p.2, p.1)) := by
  unfold fr
  simp only [Act.mk.injEq, and_true]
  have key : ∀ (xs : List Value) (k t : Nat), look' ((xs.zipIdx k).map fun p => (p.2, p.1)) t = if k ≤ t then xs.getD (t - k) undef else undef := by
    intro xs
    induction xs with
    | nil => intro k t; simp [look']
    | cons x xs ih =>
      intro k t
      simp only [List.zipIdx_cons, List.map_cons, look']
      by_cases hb : k = t
      · subst hb; simp
      · have : Nat.beq k t = false := by
          cases hb' : Nat.beq k t
          · rfl
          · exact absurd (Nat.eq_of_beq_eq_true hb') hb
        rw [this, cond_false, ih]
        by_cases hkt : k ≤ t
        · have h1 : k + 1 ≤ t := by omega
          rw [if_pos hkt, if_pos h1]
          obtain ⟨m, hm⟩ : ∃ m, t - k = m + 1 := ⟨t - k - 1, by omega⟩
          have : t - (k + 1) = m := by omega
          rw [hm, this]; rfl
        · rw [if_neg hkt, if_neg (by omega)]
  apply Array.ext
  · simp; omega
  · intro i h1 h2
    simp only [List.getElem_toArray, List.getElem_map, List.getElem_range, key, Nat.zero_le, if_true, Nat.sub_zero]
    by_cases hi : i < args.size
    · simp [Array.getElem_append, hi]
    · simp [Array.getElem_append, hi]

/-! ### Operations -/
/-- The operation gives a value. -/
def Ex (ρ : Operand → Value) (o : Oper) (w : World) (v : Value) (w' : World) : Prop := (execOp ρ o).run Try.prog w = .ok (.value v) w'
/-- The operation does something, and gives nothing. -/
def Eu (ρ : Operand → Value) (o : Oper) (w : World) (w' : World) : Prop := (execOp ρ o).run Try.prog w = .ok .skip w'

theorem Ex.semAt {ρ : Operand → Value} {o : Oper} {w w' : World} {x : Next} (r : Option Nat) (hx : ∀ d, x ≠ .defer d) (h : (execOp ρ o).run Try.prog w = .ok x w') : (o.semAt r ρ).run Try.prog w = .ok x w' := by
  cases r with
  | none => simpa [Oper.semAt_none] using h
  | some l =>
    rw [Oper.semAt_some]
    · exact h
    · intro c hc
      simp only [execOp, hc, Sem.run_bind] at h
      cases hr : (resolve ρ c o.type).run Try.prog w with
      | ok d w1 => rw [hr] at h; simp at h; exact hx _ h.1.symm
      | halt a b => rw [hr] at h; simp [Result.andThen] at h

section
variable {r : Option Nat} {ops : Array Oper} {Q : Post} {rest : List Oper} {o : Oper} {n : Nat} {ds : List Deferred} {l : Fr} {W W' : World}

theorem WL.nil (h : Q .normal (fr n ds l) W) : WL r ops Q [] (fr n ds l) W := h
theorem WL.plain (hg : o.guard = none) (h : ∀ K : Act → World → Prop, (∀ a w, WL r ops Q rest a w → K a w) → o.wpIn (FW r) 0 Try.prog (fr n ds l) W K Q) : WL r ops Q (o :: rest) (fr n ds l) W :=
  wpListIn_plain hg h
theorem WL.val {v : Value} (hg : o.guard = none) (h : Ex (ev n l) o W v W') (hK : WL r ops Q rest ((fr n ds l).put o.dst v) W') : WL r ops Q (o :: rest) (fr n ds l) W := by
  refine WL.plain hg fun K hKK => ⟨fun _ _ => trivial, ?_⟩
  have h1 := Ex.semAt (FW r).round (fun d => by simp) h
  rw [fr_eval, h1]
  exact hKK _ _ hK
/-- An operation that gives a value into slot d. -/
theorem WL.op {v : Value} {d : Nat} (hg : o.guard = none) (hd : o.dst = some d) (hn : Nat.blt d n = true) (h : Ex (ev n l) o W v W') (hK : WL r ops Q rest (fr n ds ((d, v) :: l)) W') : WL r ops Q (o :: rest) (fr n ds l) W :=
  WL.val hg h (by rw [hd, fr_put hn]; exact hK)
/-- An operation that does something. -/
theorem WL.do (hg : o.guard = none) (hd : o.dst = none) (h : Eu (ev n l) o W W') (hK : WL r ops Q rest (fr n ds l) W') : WL r ops Q (o :: rest) (fr n ds l) W := by
  refine WL.plain hg fun K hKK => ⟨fun _ _ => trivial, ?_⟩
  have h1 := Ex.semAt (FW r).round (fun d => by simp) h
  rw [fr_eval, h1]
  show K ((fr n ds l).put o.dst undef) W'
  rw [hd]
  exact hKK _ _ hK
theorem WL.enter {f : FuncId} {args : Array Value} {R : Ending → World → Prop} (hg : o.guard = none) (h : (execOp (ev n l) o).run Try.prog W = .ok (.enter f args) W) (hc : Calls Try.prog f args W R)
    (hK : ∀ e W', R e W' → ∃ v, e = .returned v ∧ WL r ops Q rest ((fr n ds l).put o.dst v) W') : WL r ops Q (o :: rest) (fr n ds l) W := by
  refine WL.plain hg fun K hKK => ⟨fun _ _ => trivial, ?_⟩
  have h1 := Ex.semAt (FW r).round (fun d => by simp) h
  rw [fr_eval, h1]
  refine ⟨fun hd => by simp [FW] at hd, (calls_in hc).mono fun e w' he => ?_⟩
  obtain ⟨v, rfl, hk⟩ := hK e w' he
  exact hKK _ _ hk
/-- A call of a function whose contract tells what is returned. -/
theorem WL.call {f : FuncId} {args : Array Value} {d : Nat} {R : Ending → World → Prop} (hg : o.guard = none) (hd : o.dst = some d) (hn : Nat.blt d n = true) (h : (execOp (ev n l) o).run Try.prog W = .ok (.enter f args) W) (hc : Calls Try.prog f args W R)
    (hK : ∀ e W', R e W' → ∃ v, e = .returned v ∧ WL r ops Q rest (fr n ds ((d, v) :: l)) W') : WL r ops Q (o :: rest) (fr n ds l) W :=
  WL.enter hg h hc fun e W' he => by
    obtain ⟨v, h1, h2⟩ := hK e W' he
    exact ⟨v, h1, by rw [hd, fr_put hn]; exact h2⟩
theorem WL.call0 {f : FuncId} {args : Array Value} {R : Ending → World → Prop} (hg : o.guard = none) (hd : o.dst = none) (h : (execOp (ev n l) o).run Try.prog W = .ok (.enter f args) W) (hc : Calls Try.prog f args W R)
    (hK : ∀ e W', R e W' → ∃ v, e = .returned v ∧ WL r ops Q rest (fr n ds l) W') : WL r ops Q (o :: rest) (fr n ds l) W :=
  WL.enter hg h hc fun e W' he => by
    obtain ⟨v, h1, h2⟩ := hK e W' he
    exact ⟨v, h1, by rw [hd]; exact h2⟩

/-! ### Code -/
theorem WP.mono {c : Code} {Q' : Post} {a : Act} (h : WP r c Q a W) (hq : ∀ e a w, Q e a w → Q' e a w) : WP r c Q' a W := Go.wpIn_mono h hq
theorem WP.skip {a : Act} (h : Q .normal a W) : WP r .skip Q a W := wpIn_skip h
theorem WP.label {a : Act} {k : Nat} (h : Q .normal a W) : WP r (.label k) Q a W := wpIn_label h
theorem WP.exit {a : Act} {id : Nat} (h : Q (.exit id) a W) : WP r (.exit id) Q a W := wpIn_exit h
theorem WP.goto {a : Act} {k : Nat} (h : Q (.goto k) a W) : WP r (.goto k) Q a W := wpIn_goto h
theorem WP.ret {a : Act} (h : Q .ret a W) : WP r .ret Q a W := wpIn_ret h
theorem WP.seq {a : Act} {x y : Code} (h : WP r x (Exit.then (WP r y Q) Q) a W) : WP r (.seq x y) Q a W := wpIn_seq h
theorem WP.block {a : Act} {id : Nat} {c : Code} (h : WP r c (Exit.inBlock id Q) a W) : WP r (.block id c) Q a W := wpIn_block h
theorem WP.region {a : Act} {id : Nat} {k : List Oper} (h : WL r k.toArray Q k a W) : WP r (.region id k.toArray false) Q a W := wpIn_region_lit h
theorem WP.cond {c : Operand} {x y : Code} {b : Bool} (hc : ev n l c = .bool b) (ht : b = true → WP r x Q (fr n ds l) W) (hf : b = false → WP r y Q (fr n ds l) W) : WP r (.cond c x y) Q (fr n ds l) W :=
  wpIn_cond_split (t := b) (by rw [fr_eval, hc]) ht hf
theorem WP.condT {c : Operand} {x y : Code} (hc : ev n l c = .bool true) (ht : WP r x Q (fr n ds l) W) : WP r (.cond c x y) Q (fr n ds l) W := WP.cond hc (fun _ => ht) (fun h => by cases h)
theorem WP.condF {c : Operand} {x y : Code} (hc : ev n l c = .bool false) (hf : WP r y Q (fr n ds l) W) : WP r (.cond c x y) Q (fr n ds l) W := WP.cond hc (fun h => by cases h) (fun _ => hf)
theorem WP.condP {c : Operand} {x y : Code} {p : Prop} [Decidable p] (hc : ev n l c = .bool (decide p)) (ht : p → WP r x Q (fr n ds l) W) (hf : ¬ p → WP r y Q (fr n ds l) W) : WP r (.cond c x y) Q (fr n ds l) W :=
  WP.cond hc (fun h => ht (of_decide_eq_true h)) (fun h => hf (of_decide_eq_false h))
/-- A loop: what holds at the head of each round, of something that every round lowers. -/
theorem WP.loop {X : Type} {c : Code} {a : Act} (I : X → Act → World → Prop) (m : X → Nat) (x0 : X) (h0 : I x0 a W)
    (hr : ∀ x a w, I x a w → WP r c (Exit.then (fun a' w' => ∃ x', I x' a' w' ∧ m x' < m x) Q) a w) : WP r (.loop c) Q a W := by
  have hle : ∀ a w, (∃ x, I x a w) → ∃ x, I x a w ∧ ∀ y, I y a w → m x ≤ m y := by
    intro a w h
    have : ∀ k, (∃ x, I x a w ∧ m x = k) → ∃ x, I x a w ∧ ∀ y, I y a w → m x ≤ m y := by
      intro k
      induction k using Nat.strongRecOn with
      | _ k ih =>
        rintro ⟨x, hx, hk⟩
        by_cases hall : ∀ y, I y a w → m x ≤ m y
        · exact ⟨x, hx, hall⟩
        · have ⟨y, hy⟩ := Classical.not_forall.1 hall
          have ⟨hy1, hy2⟩ := Classical.not_imp.1 hy
          exact ih (m y) (by omega) ⟨y, hy1, rfl⟩
    obtain ⟨x, hx⟩ := h
    exact this _ ⟨x, hx, rfl⟩
  let μ : Act → World → Nat := fun a w => open Classical in if h : ∃ x, I x a w then m (Classical.choose (hle a w h)) else 0
  have hμ : ∀ a w x, I x a w → μ a w ≤ m x := by
    intro a w x hx
    have h : ∃ x, I x a w := ⟨x, hx⟩
    simp only [μ, dif_pos h]
    exact (Classical.choose_spec (hle a w h)).2 x hx
  refine wpIn_loop (fun a w => ∃ x, I x a w) μ ⟨x0, h0⟩ ?_
  intro a w h
  have hx := Classical.choose_spec (hle a w h)
  have hm : μ a w = m (Classical.choose (hle a w h)) := by simp only [μ, dif_pos h]
  refine Go.wpIn_mono (hr _ a w hx.1) ?_
  intro e a' w' hq
  cases e with
  | normal =>
    obtain ⟨x', hx', hlt⟩ := hq
    refine ⟨⟨x', hx'⟩, ?_⟩
    rw [hm]
    exact Nat.lt_of_le_of_lt (hμ a' w' x' hx') hlt
  | _ => exact hq
/-- A loop of which one round is walked: whatever holds at its head. -/
theorem WP.loop1 {c : Code} {a : Act} (h : WP r c (Exit.then (fun _ _ => False) Q) a W) : WP r (.loop c) Q a W :=
  WP.loop (X := Unit) (fun _ a' w' => a' = a ∧ w' = W) (fun _ => 0) () ⟨rfl, rfl⟩ fun _ a' w' ⟨ha, hw⟩ => by
    subst ha; subst hw
    exact h.mono fun e a w q => by cases e <;> first | exact q | exact q.elim
theorem inBlock_same {a : Act} {id : Nat} (h : Q .normal a W) : Exit.inBlock id Q (.exit id) a W := by simpa [Exit.inBlock] using h
theorem inBlock_ne {a : Act} {id id' : Nat} (hne : Nat.beq id' id = false) (h : Q (.exit id') a W) : Exit.inBlock id Q (.exit id') a W := by
  have : id' ≠ id := fun e => by subst e; simp at hne
  simpa [Exit.inBlock, this] using h

/-! ### Functions -/
theorem enter {f : FuncId} {fn : Func} {c : Code} {args : Array Value} {w : World} {R : Ending → World → Prop} (hf : Try.prog.funcs[f]? = some fn) (hb : fn.body = some c) {n : Nat} (hn : fn.ntmps = n) (ha : args.size ≤ n)
    {l : Fr} (hl : (args.toList.zipIdx.map fun p => (p.2, p.1)) = l) (h : WP none c (bodyPost Try.prog fn R) (fr n [] l) w) : Calls Try.prog f args w R := by
  refine callsIn_wide (n := 0) |>.1 (callsIn_of_wp (F := Fence.wide) hf hb trivial ?_)
  subst hn hl
  rw [fr_init _ _ ha]
  exact h
/-- The values of the slots that a function's results are. -/
def resVals (n : Nat) (l : Fr) : List ResultVar → Option (List Value)
  | [] => some []
  | .tmp t :: rs => (resVals n l rs).map (ev n l (.tmp t) :: ·)
  | .cell _ _ :: _ => none
def packVals : List Value → Value
  | [v] => v
  | vs => .tuple vs.toArray
end
end Go.Proofs.Ythidakffgcjjiaa
