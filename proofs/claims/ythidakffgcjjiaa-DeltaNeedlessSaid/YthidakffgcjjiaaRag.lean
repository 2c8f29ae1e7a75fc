/- Rows of rows: slices of slices, appends of whole slices, stores into rows of one's own; code in scopes; blocks in another order. -/
import Derived.Test.YthidakffgcjjiaaStr
import Derived.Test.YthidakffgcjjiaaRange
import Derived.Scope
namespace Go.Proofs.Ythidakffgcjjiaa
open Go.RowKit Go.Sort

/-! ### Blocks in another order -/
theorem perm_of_count {α : Type} {l m : List α} (h : ∀ f : α → Bool, l.countP f = m.countP f) : l.Perm m := by
  classical
  rw [List.perm_iff_count]
  intro a
  exact h (· == a)
theorem count_opt {α : Type} (o : Option α) (f : α → Bool) : o.toList.countP f = o.toList.countP f := rfl

/-! ### Scopes -/
section
variable {Q : Post} {c : Code} {a : Act} {W : World}
theorem WP.scope (h : WP none c (Exit.noGoto Q) a W) : WP none (.scope c) Q a W := wpIn_wide.2 (wp_scope_straight (wpIn_wide.1 h))
theorem ng_normal (h : Q .normal a W) : Exit.noGoto Q .normal a W := h
theorem ng_exit {id : Nat} (h : Q (.exit id) a W) : Exit.noGoto Q (.exit id) a W := h
theorem ng_ret (h : Q .ret a W) : Exit.noGoto Q .ret a W := h
end

/-! ### Capacities -/
def Capd (v : Value) : Prop := ∀ p n c, v = .slice p n c → n ≤ c
section
variable {α : Type} [Enc α] {ρ : Operand → Value} {o : Oper} {W W' w0 : World} {x y : Operand} {T E : TypeId} {r : Option Nat} {ops : Array Oper} {Q : Post} {rest : List Oper} {n : Nat} {ds : List Deferred} {l : Fr} {dd : Nat} {own pre : List (Nat × Obj)} {pins : List Pin}
theorem OutG.capd {v : Value} {e : Option (Nat × Obj)} {d : List α} (h : OutG v e T d) : Capd v := by
  rcases h with ⟨rfl, rfl, rfl⟩ | ⟨g, cap, cur, rfl, rfl, h1, h2, h3, h4⟩
  · intro p n c e; cases e; exact Nat.le_refl _
  · intro p n c e; cases e; exact h1
theorem Sl.open {v : Value} {xs : List α} (h : Sl W v xs) (hp : 0 < xs.length) : ∃ b off cap, v = .slice (some ⟨b, off, none⟩) xs.length cap := by
  rcases h with ⟨_, _, _, rfl⟩ | ⟨b, off, cap, h, _⟩
  · simp at hp
  · exact ⟨b, off, cap, h⟩
/-- The first i elements, no more room behind them. -/
theorem run_sliceTo {b off m cap i : Nat} {sz : Nat} (hT : Try.prog.underlying T = some (.slice E)) (hE : ∀ W, (Go.sizeOf E).run Try.prog W = .ok sz W) (hi : i ≤ m) (hc : m ≤ cap) :
    (Instr.slice T (.slice (some ⟨b, off, none⟩) m cap) none (some (.int .i64 (i : Int))) (some (.int .i64 (i : Int)))).run Try.prog W = .ok (.slice (some ⟨b, off, none⟩) i i) W := by
  have h1 : (i : Int) ≤ (cap : Int) := by omega
  simp [Instr.slice, run_underlying hT, Instr.sliceBounds, Instr.sliceBound, asIntOf, hE, h1, Addr.add_lit]
  intro h; exact absurd h (by omega)
/-- What stands from i on. -/
theorem run_sliceFrom {b off m cap i : Nat} {sz : Nat} (hT : Try.prog.underlying T = some (.slice E)) (hE : ∀ W, (Go.sizeOf E).run Try.prog W = .ok sz W) (hi : i ≤ m) :
    (Instr.slice T (.slice (some ⟨b, off, none⟩) m cap) (some (.int .i64 (i : Int))) none none).run Try.prog W = .ok (.slice (some ⟨b, if cap = i then off else off + i * sz, none⟩) (m - i) (cap - i)) W := by
  have h1 : (i : Int) ≤ (m : Int) := by omega
  by_cases hc : cap = i
  · simp [Instr.slice, run_underlying hT, Instr.sliceBounds, Instr.sliceBound, asIntOf, hE, h1, hc]
    intro h; exact absurd h (by omega)
  · simp [Instr.slice, run_underlying hT, Instr.sliceBounds, Instr.sliceBound, asIntOf, hE, h1, hc, Addr.add_lit]
    intro h; exact absurd h (by omega)
theorem Ex.sliceTo {b off m cap i : Nat} {sz : Nat} {z : Operand} (hT : Try.prog.underlying T = some (.slice E)) (hE : ∀ W, (Go.sizeOf E).run Try.prog W = .ok sz W) (hi : i ≤ m) (hc : m ≤ cap) (ho : o.op = .slice T x none (some y) (some z)) (hx : ρ x = .slice (some ⟨b, off, none⟩) m cap) (hy : ρ y = .int .i64 (i : Int)) (hz : ρ z = .int .i64 (i : Int)) :
    Ex ρ o W (.slice (some ⟨b, off, none⟩) i i) W := by
  simp [Ex, execOp, ho, hx, hy, hz, Instr.sliceAt, run_underlying hT, run_sliceTo hT hE hi hc]
theorem Ex.sliceFrom {b off m cap i : Nat} {sz : Nat} (hT : Try.prog.underlying T = some (.slice E)) (hE : ∀ W, (Go.sizeOf E).run Try.prog W = .ok sz W) (hi : i ≤ m) (ho : o.op = .slice T x (some y) none none) (hx : ρ x = .slice (some ⟨b, off, none⟩) m cap) (hy : ρ y = .int .i64 (i : Int)) :
    Ex ρ o W (.slice (some ⟨b, if cap = i then off else off + i * sz, none⟩) (m - i) (cap - i)) W := by
  simp [Ex, execOp, ho, hx, hy, Instr.sliceAt, run_underlying hT, run_sliceFrom hT hE hi]
theorem Sl.to {b off cap i c : Nat} {xs : List α} (h : Sl W (.slice (some ⟨b, off, none⟩) xs.length cap) xs) (hi : i ≤ xs.length) : Sl W (.slice (some ⟨b, off, none⟩) i c) (xs.take i) := by
  rcases h with ⟨_, _, _, rfl⟩ | ⟨b', off', cap', h, hl, hb, hr⟩
  · have h0 : i = 0 := by simpa using hi
    subst h0
    exact .inl ⟨_, _, rfl, rfl⟩
  · cases h
    refine .inr ⟨b, off, c, ?_, ?_, hb, fun j a hj => hr j a ?_⟩
    · rw [List.length_take, Nat.min_eq_left hi]
    · rw [List.length_take]; omega
    · rw [List.getElem?_take] at hj
      split at hj
      · exact hj
      · cases hj
theorem Sl.from {b off cap i c : Nat} {xs : List α} (h : Sl W (.slice (some ⟨b, off, none⟩) xs.length cap) xs) (hi : i ≤ xs.length) (hc : xs.length ≤ cap) : Sl W (.slice (some ⟨b, if cap = i then off else off + i * Enc.sz α, none⟩) (xs.length - i) c) (xs.drop i) := by
  rcases h with ⟨_, _, _, rfl⟩ | ⟨b', off', cap', h, hl, hb, hr⟩
  · have e : ([] : List α).length - i = 0 := by simp
    rw [e]
    exact .inl ⟨_, _, rfl, by simp⟩
  · cases h
    by_cases hci : cap = i
    · have hd : xs.drop i = [] := List.drop_eq_nil_of_le (by omega)
      rw [hd, if_pos hci]
      refine .inr ⟨b, off, c, ?_, by simp, hb, fun j a hj => by cases hj⟩
      simp; omega
    · rw [if_neg hci]
      refine .inr ⟨b, off + i * Enc.sz α, c, ?_, ?_, hb, fun j a hj => ?_⟩
      · rw [List.length_drop]
      · rw [List.length_drop]; omega
      · rw [List.getElem?_drop] at hj
        have := hr (i + j) a hj
        rwa [Nat.add_mul, ← Nat.add_assoc] at this
theorem flatE_at {b off : Nat} {xs : List α} (hr : ∀ i a, xs[i]? = some a → Reads W b (off + i * Enc.sz α) (Enc.val a).cells.toList) (hs : 0 < Enc.sz α) : ∀ j u, (flatE xs)[j]? = some u → W.cell? ⟨b, off + j, none⟩ = some u := by
  intro j u hu
  have hj := (List.getElem?_eq_some_iff.1 hu).1
  rw [flatE_len] at hj
  have hq : j / Enc.sz α < xs.length := Nat.div_lt_of_lt_mul (by rwa [Nat.mul_comm] at hj)
  have hg := flatE_get xs (j / Enc.sz α) xs[j / Enc.sz α] (by simp)
  have hm := Nat.mod_lt j hs
  have e := Nat.div_add_mod j (Enc.sz α)
  rw [Nat.mul_comm] at e
  have hu' : ((Enc.val xs[j / Enc.sz α]).cells.toList)[j % Enc.sz α]? = some u := by
    rw [← hg, List.getElem?_take, if_pos hm, List.getElem?_drop, e]; exact hu
  have := (hr (j / Enc.sz α) xs[j / Enc.sz α] (by simp)).2 (j % Enc.sz α) u hu'
  rwa [Nat.add_assoc, e] at this
theorem Sl.cells {b off m cap : Nat} {xs : List α} (h : Sl W (.slice (some ⟨b, off, none⟩) m cap) xs) (hs : 0 < Enc.sz α) : m = xs.length ∧ ∀ j u, (flatE xs)[j]? = some u → W.cell? (Addr.add ⟨b, off, none⟩ j) = some u := by
  rcases h with ⟨_, _, h, rfl⟩ | ⟨b', off', cap', h, hl, hb, hr⟩
  · cases h
    exact ⟨rfl, fun j u hu => by cases hu⟩
  · cases h
    exact ⟨rfl, fun j u hu => by rw [Addr.add_lit]; exact flatE_at hr hs j u hu⟩
/-- What a slice reads of a block that begins so. -/
theorem Sl.of_row {b m cap : Nat} {C : Array Value} {xs : List α} {fz : Nat × Nat} (hb : W.heap[b]? = some (.cells C E fz)) (hC : C.toList.take (xs.length * Enc.sz α) = flatE xs) (hm : m = xs.length) (hl : xs.length < 4611686018427387904) : Sl W (.slice (some ⟨b, 0, none⟩) m cap) xs := by
  subst hm
  refine .inr ⟨b, 0, cap, rfl, hl, (Array.getElem?_eq_some_iff.1 hb).1, fun i a hia => ?_⟩
  refine Reads.of_block hb _ _ ?_
  have hil := (List.getElem?_eq_some_iff.1 hia).1
  have hlen : ((Enc.val a).cells.toList).length = Enc.sz α := by rw [Array.length_toList]; exact Enc.hsz a
  rw [hlen, Nat.zero_add]
  have h5 := flatE_get xs i a hia
  rw [← hC, List.drop_take, List.take_take] at h5
  have h6 : (i + 1) * Enc.sz α ≤ xs.length * Enc.sz α := Nat.mul_le_mul_right _ hil
  rw [Nat.succ_mul] at h6
  rwa [Nat.min_eq_left (by omega)] at h5
/-- append to a slice that has no room: what comes back is new, or nothing was appended. -/
theorem run_appendCat {S : TypeId} {z : Value} {bytes b off i b2 off2 m2 c2 : Nat} {xs ys : List α} (hSl : Try.prog.underlying S = some (.slice T)) (hinfo : (Try.prog.info? T).map (fun i => (i.zero, i.size, i.bytes)) = some (some z, Enc.sz α, bytes)) (hz : z.cells.size = Enc.sz α) (hs : 0 < Enc.sz α) (hby : bytes ≤ 1024) (ty : TypeId)
    (hx : Sl W (.slice (some ⟨b, off, none⟩) i i) xs) (hy : Sl W (.slice (some ⟨b2, off2, none⟩) m2 c2) ys) (hb : xs.length + ys.length ≤ 4194304) :
    ∃ v' W', (Builtin.append_ #[S, S] ty #[.slice (some ⟨b, off, none⟩) i i, .slice (some ⟨b2, off2, none⟩) m2 c2]).run Try.prog W = .ok v' W' ∧ Bw W W' ∧ Sl W' v' (xs ++ ys) ∧ (New W v' ∨ vblk v' = some b) := by
  obtain ⟨inf, hi, hz0, hz1, hz2⟩ := info_parts hinfo
  obtain ⟨rfl, hcx⟩ := hx.cells hs
  obtain ⟨rfl, hcy⟩ := hy.cells hs
  by_cases h0 : ys.length = 0
  · have hys : ys = [] := List.eq_nil_of_length_eq_zero h0
    subst hys
    refine ⟨.slice (some ⟨b, off, none⟩) xs.length xs.length, W, ?_, Bw.refl _, by rw [List.append_nil]; exact hx, ?_⟩
    · simp [Builtin.append_, run_underlying hSl, sizeOf, typeInfo, hi, Builtin.lenOf, Builtin.firstCells, loadCells, loadCellsFrom, storeCells]
    · by_cases hx0 : xs.length = 0
      · exact .inl fun k hk => by rw [hx0] at hk; exact (vblk_zero hk).elim
      · exact .inr (vblk_pos (by omega))
  · have hfit : Builtin.nextslicecap (xs.length + ys.length) xs.length * inf.bytes ≤ 281474976710656 := growslice_fits (by omega) (by
      rw [hz2]
      have : (xs.length + ys.length) * bytes ≤ 4194304 * 1024 := Nat.mul_le_mul hb hby
      omega)
    have hr := run_append_grow (P := Try.prog) W S ty T inf z hSl hi hz0 ⟨b, off, none⟩ xs.length xs.length (flatE xs) (by rw [flatE_len, hz1]) hcx ⟨b2, off2, none⟩ ys.length c2 (flatE ys) (by rw [flatE_len, hz1]) hcy (by omega) (by omega) hfit
    refine ⟨_, _, hr, (Bw.refl W).drew.alloc _, ?_, .inl fun k hk => by rw [vblk_eq hk]; exact Nat.le_refl _⟩
    refine Sl.of_row (xs := xs ++ ys) (heap_alloc_new W.drew _) ?_ (by simp) (by simp; omega)
    simp only [Array.toList_append, List.append_assoc]
    rw [flatE_append, ← List.append_assoc, ← flatE_append, ← flatE_len]
    exact List.take_left
theorem WL.appendCat {S : TypeId} {z : Value} {bytes b off i b2 off2 m2 c2 : Nat} {xs ys : List α} (hSl : Try.prog.underlying S = some (.slice T)) (hinfo : (Try.prog.info? T).map (fun i => (i.zero, i.size, i.bytes)) = some (some z, Enc.sz α, bytes)) (hz : z.cells.size = Enc.sz α) (hs : 0 < Enc.sz α) (hby : bytes ≤ 1024)
    (hxs : Sl W (.slice (some ⟨b, off, none⟩) i i) xs) (hys : Sl W (.slice (some ⟨b2, off2, none⟩) m2 c2) ys) (hb : xs.length + ys.length ≤ 4194304)
    (hg : o.guard = none) (hdst : o.dst = some dd) (hn : Nat.blt dd n = true) (ho : o.op = .call { callee := .builtin .append, args := #[x, y], argTypes := #[S, S] }) (hxv : ev n l x = .slice (some ⟨b, off, none⟩) i i) (hyv : ev n l y = .slice (some ⟨b2, off2, none⟩) m2 c2)
    (hK : ∀ v' W', Bw W W' → Sl W' v' (xs ++ ys) → (New W v' ∨ vblk v' = some b) → WL r ops Q rest (fr n ds ((dd, v') :: l)) W') : WL r ops Q (o :: rest) (fr n ds l) W := by
  obtain ⟨v', W', hrun, h1, h2, h3⟩ := run_appendCat hSl hinfo hz hs hby o.type hxs hys hb
  refine WL.op hg hdst hn (v := v') (W' := W') ?_ (hK v' W' h1 h2 h3)
  simp [Ex, execOp, ho, resolve, invoke, builtin, hxv, hyv, hrun]

/-! ### Rows of one's own -/
theorem flatE_set : ∀ (d : List α) (i : Nat) (a : α), i < d.length → flatE (d.set i a) = (flatE d).take (i * Enc.sz α) ++ (Enc.val a).cells.toList ++ (flatE d).drop (i * Enc.sz α + Enc.sz α)
  | [], _, _, h => by simp at h
  | x :: d, 0, a, _ => by
    have hlen : ((Enc.val x).cells.toList).length = Enc.sz α := by rw [Array.length_toList]; exact Enc.hsz x
    unfold flatE
    rw [List.set_cons_zero, List.flatMap_cons, List.flatMap_cons, Nat.zero_mul, List.take_zero, Nat.zero_add, List.nil_append, ← hlen, List.drop_left]
  | x :: d, i + 1, a, h => by
    have hlen : ((Enc.val x).cells.toList).length = Enc.sz α := by rw [Array.length_toList]; exact Enc.hsz x
    have ih := flatE_set d i a (by simpa using h)
    unfold flatE at ih ⊢
    rw [List.set_cons_succ, List.flatMap_cons, List.flatMap_cons, ih]
    have e : (i + 1) * Enc.sz α = ((Enc.val x).cells.toList).length + i * Enc.sz α := by rw [hlen, Nat.succ_mul, Nat.add_comm]
    rw [e, Nat.add_assoc, List.take_length_add_append, List.drop_length_add_append]
    simp only [List.append_assoc]
theorem OutG.spot {S : TypeId} {v : Value} {e : Option (Nat × Obj)} {d : List α} {i : Nat} (hO : OutG v e T d) (hSl : Try.prog.underlying S = some (.slice E)) (hE : ∀ W, (Go.sizeOf E).run Try.prog W = .ok (Enc.sz α) W) (hi : i < d.length) :
    ∃ g o', e = some (g, o') ∧ ∀ W, (Instr.indexAt S v (.int .i64 (i : Int))).run Try.prog W = .ok (.pointer (some ⟨g, i * Enc.sz α, none⟩)) W := by
  rcases hO with ⟨rfl, rfl, rfl⟩ | ⟨g, cap, cur, rfl, rfl, h1, h2, h3, h4⟩
  · simp at hi
  · refine ⟨g, _, rfl, fun W => ?_⟩
    have := run_indexAt_sl (W := W) (b := g) (off := 0) (cap := cap) hSl hE hi
    rwa [Nat.zero_add] at this
theorem WL.storeOut {v : Value} {g i : Nat} {o' : Obj} {d : List α} {a : α} (hO : OutG v (some (g, o')) T d) (hE : ∀ W, (Go.sizeOf E).run Try.prog W = .ok (Enc.sz α) W) (hi : i < d.length) (pre : List (Nat × Obj)) (hS : St w0 (pre ++ [(g, o')]) pins W)
    (hg : o.guard = none) (hd : o.dst = none) (ho : o.op = .store E x y) (hx : ev n l x = .pointer (some ⟨g, i * Enc.sz α, none⟩)) (hy : ev n l y = Enc.val a)
    (hK : ∀ o'' W', OutG v (some (g, o'')) T (d.set i a) → St w0 (pre ++ [(g, o'')]) pins W' → WL r ops Q rest (fr n ds l) W') : WL r ops Q (o :: rest) (fr n ds l) W := by
  rcases hO with ⟨_, h, _⟩ | ⟨g', cap, cur, rfl, he, h1, h2, h3, h4⟩
  · cases h
  · cases he
    have hat : (pre ++ [(g, Obj.cells cur T (0, 0))])[pre.length]? = some (g, .cells cur T (0, 0)) := by simp
    have hb := hS.at pre.length hat
    have hone := Enc.one a
    have hsz : (Enc.val a).cells.size = Enc.sz α := Enc.hsz a
    have hle1 : (i + 1) * Enc.sz α ≤ d.length * Enc.sz α := Nat.mul_le_mul_right _ hi
    have hle2 : d.length * Enc.sz α ≤ cap * Enc.sz α := Nat.mul_le_mul_right _ h1
    rw [Nat.succ_mul] at hle1
    have hle : i * Enc.sz α + Enc.sz α ≤ cur.size := by omega
    have hst := run_storeCells_at Try.prog g (i * Enc.sz α) T (Enc.val a).cells.toList 0 cur W hb (by simp only [Nat.add_zero, Array.length_toList, hsz]; exact hle) hone
    simp only [Nat.add_zero, Array.length_toList, hsz] at hst
    obtain ⟨C', hC⟩ : ∃ C', (cur.toList.take (i * Enc.sz α) ++ (Enc.val a).cells.toList ++ cur.toList.drop (i * Enc.sz α + Enc.sz α)).toArray = C' := ⟨_, rfl⟩
    rw [hC] at hst
    refine WL.do hg hd (W' := W.setRow g C') ?_ (hK (.cells C' T (0, 0)) _ ?_ ?_)
    · simp [Eu, execOp, ho, hx, hy, Instr.storeAt, Instr.sureAddr, storeVar, hE, hsz, hst]
    · have hlenC : C'.size = cur.size := by
        rw [← hC]
        simp only [List.size_toArray, List.length_append, List.length_take, List.length_drop, Array.length_toList, hsz]
        omega
      refine .inr ⟨g, cap, C', by rw [List.length_set], rfl, by rw [List.length_set]; exact h1, h2, by rw [hlenC]; exact h3, ?_⟩
      rw [List.length_set, flatE_set d i a hi, ← h4, ← hC]
      have hlt : ((Enc.val a).cells.toList).length = Enc.sz α := by rw [Array.length_toList]; exact hsz
      have hlk : (cur.toList.take (i * Enc.sz α)).length = i * Enc.sz α := by rw [List.length_take, Array.length_toList]; omega
      show (cur.toList.take (i * Enc.sz α) ++ (Enc.val a).cells.toList ++ cur.toList.drop (i * Enc.sz α + Enc.sz α)).take (d.length * Enc.sz α) = _
      rw [List.take_append, List.take_of_length_le (by rw [List.length_append, hlk, hlt]; omega), List.length_append, hlk, hlt, List.take_take, Nat.min_eq_left (by omega), List.drop_take]
    · have := hS.turn (W' := W.setRow g C') (o' := .cells C' T (0, 0)) pre.length hat rfl rfl rfl (by simp [World.setRow]) (by intro k hk; simp [World.setRow, Array.getElem?_modify, Ne.symm hk]) (setRow_heap W g cur C' T _ hb)
      rw [List.set_append_right _ _ (Nat.le_refl _)] at this
      simpa using this
/-- append of a whole slice to a row of one's own. -/
theorem WL.appendAll {xs : List α} {v : Value} {e : Option (Nat × Obj)} {d : List α} {S : TypeId} {z : Value} {bytes : Nat} {vx : Value} (hSl : Try.prog.underlying S = some (.slice T)) (hinfo : (Try.prog.info? T).map (fun i => (i.zero, i.size, i.bytes)) = some (some z, Enc.sz α, bytes)) (hz : z.cells.size = Enc.sz α) (hsz : 0 < Enc.sz α) (hby : bytes ≤ 1024)
    (pre : List (Nat × Obj)) (hO : OutG v e T d) (hS : St w0 (pre ++ e.toList) pins W) (hx : Sl W vx xs) (hd : d.length + xs.length ≤ 4194304)
    (hg : o.guard = none) (hdst : o.dst = some dd) (hn : Nat.blt dd n = true) (ho : o.op = .call { callee := .builtin .append, args := #[x, y], argTypes := #[S, S] }) (hxv : ev n l x = v) (hyv : ev n l y = vx)
    (hK : ∀ v' e' W', OutG v' e' T (d ++ xs) → St w0 (pre ++ e'.toList) pins W' → WL r ops Q rest (fr n ds ((dd, v') :: l)) W') : WL r ops Q (o :: rest) (fr n ds l) W := by
  obtain ⟨i, hi, hz0, hz1, hz2⟩ := info_parts hinfo
  have hx0 := hx
  rcases hx with ⟨px, cx0, rfl, rfl⟩ | ⟨bx, ox, cx, rfl, hlx, hbx, hrx⟩
  · refine WL.op hg hdst hn (v := v) (W' := W) ?_ (hK v e W (by rw [List.append_nil]; exact hO) hS)
    have : (Builtin.append_ #[S, S] o.type #[v, .slice px 0 cx0]).run Try.prog W = .ok v W := by
      cases px <;> rcases hO with ⟨rfl, rfl, rfl⟩ | ⟨g, cap, cur, rfl, rfl, h1, h2, h3, h4⟩
      · simp [Builtin.append_, run_underlying hSl, sizeOf, typeInfo, hi, Builtin.lenOf, Builtin.firstCells]
      · simp [Builtin.append_, run_underlying hSl, sizeOf, typeInfo, hi, Builtin.lenOf, Builtin.firstCells, h1, storeCells]
      · simp [Builtin.append_, run_underlying hSl, sizeOf, typeInfo, hi, Builtin.lenOf, Builtin.firstCells, loadCells, loadCellsFrom]
      · simp [Builtin.append_, run_underlying hSl, sizeOf, typeInfo, hi, Builtin.lenOf, Builtin.firstCells, h1, storeCells, loadCells, loadCellsFrom]
    simp [Ex, execOp, ho, resolve, invoke, builtin, hxv, hyv, this]
  have hown : W.ownsRow w0.heap.size T (Enc.sz α) v d.length (flatE d) := by
    refine ⟨flatE_len d, ?_⟩
    rcases hO with ⟨rfl, rfl, rfl⟩ | ⟨g, cap, cur, rfl, rfl, h1, h2, h3, h4⟩
    · exact .inl ⟨rfl, rfl⟩
    · have hi : (pre ++ (some (g, Obj.cells cur T (0, 0))).toList)[pre.length]? = some (g, .cells cur T (0, 0)) := by simp
      exact .inr ⟨g, cap, cur, rfl, hS.ge pre.length hi, hS.at pre.length hi, h1, h2, h3, h4⟩
  obtain ⟨v', W', hrun, hown', hgrow, hnil, hblk⟩ := run_append_own_at (P := Try.prog) (w := W) w0.heap.size S o.type T i z (Enc.sz α) bytes hSl hi hz0 hz1 hz2 hz hsz v d.length (flatE d) hown ⟨bx, ox, none⟩ xs.length cx (flatE xs) (flatE_len xs) (hx0.cells hsz).2
    (flatE_one _) (by unfold maxLen; omega) (by
      have : (d.length + xs.length) * bytes ≤ 4194304 * 1024 := Nat.mul_le_mul (by omega) hby
      omega) hS.bw.size
  obtain ⟨e', hO', hS'⟩ : ∃ e', OutG v' e' T (d ++ xs) ∧ St w0 (pre ++ e'.toList) pins W' := by
    obtain ⟨_, hc⟩ := hown'
    rcases hc with ⟨hv0, h0⟩ | ⟨g, cap, cur, rfl, hge, hgb, hnc, hcm, hcs, htake⟩
    · have hd0 : d = [] := List.eq_nil_of_length_eq_zero (by omega)
      have hx0 : xs = [] := List.eq_nil_of_length_eq_zero (by omega)
      have hvn := (hnil.1 hv0).1
      subst hd0 hx0 hv0
      subst hvn
      rcases hO with ⟨_, rfl, _⟩ | ⟨g, cap, cur, h, _⟩
      · refine ⟨none, .inl ⟨rfl, rfl, rfl⟩, ?_⟩
        simp only [Option.toList_none, List.append_nil] at hS ⊢
        exact ⟨⟨hgrow.os.trans hS.bw.os, hgrow.tape.trans hS.bw.tape, hgrow.output.trans hS.bw.output, Nat.le_trans hS.bw.size hgrow.size, fun k hk => (hgrow.block k (by have := hS.bw.size; omega) (fun e => by cases e)).trans (hS.bw.heap hk)⟩,
          fun p hp => ⟨(hgrow.block p.1 (hS.lt hp) (fun e => by cases e)).trans (hS.hold p hp).1, (hS.hold p hp).2⟩, hS.nd,
          fun p hp => ⟨p.loc W W' (fun b hb => hgrow.block b (p.inn W (hS.pin p hp).1 b hb) (fun e => by cases e)) (hS.pin p hp).1, (hS.pin p hp).2⟩⟩
      · cases h
    · refine ⟨some (g, .cells cur T (0, 0)), .inr ⟨g, cap, cur, by simp, rfl, by simpa using hnc, hcm, hcs, ?_⟩, ?_⟩
      · rw [flatE_append, ← htake]; simp
      · refine hS.regrow hgrow (fun g0 hg0 => ?_) hgb ?_
        · rcases hO with ⟨rfl, rfl, rfl⟩ | ⟨g1, cap1, cur1, rfl, rfl, _⟩
          · cases hg0
          · cases hg0; exact ⟨_, rfl⟩
        · rcases hblk with hb | hb
          · exact .inl hb.symm
          · right
            have : g = W.heap.size := by simpa [Value.ownBlock] using hb
            omega
  refine WL.op hg hdst hn (v := v') (W' := W') ?_ (hK v' e' W' hO' hS')
  simp [Ex, execOp, ho, resolve, invoke, builtin, hxv, hyv, hrun]

theorem OutG.slM {v : Value} {e : Option (Nat × Obj)} {d : List α} (h : OutG v e T d) (hS : St w0 own pins W) (hin : ∀ p, e = some p → p ∈ own) (hl : d.length < 4611686018427387904) : Sl W v d ∧ New w0 v := by
  rcases h with ⟨rfl, rfl, rfl⟩ | ⟨g, cap, cur, rfl, rfl, h1, h2, h3, h4⟩
  · exact ⟨Sl.nil, fun b hb => by cases hb⟩
  · have hm := hin _ rfl
    refine ⟨Sl.of_row (hS.hold _ hm).1 h4 rfl hl, fun b hb => by rw [vblk_eq hb]; exact (hS.hold _ hm).2⟩
/-- Results that lie in two cells. -/
theorem runsC2 {fn : Func} {t t' b b' : Nat} {T T' : TypeId} {v v' : Value} (hr : fn.results = #[.cell t T, .cell t' T']) (hT : TyOne T) (hT' : TyOne T') (hv : ev n l (.tmp t) = .pointer (some ⟨b, 0, none⟩)) (hc : Reads W b 0 [v]) (hv' : ev n l (.tmp t') = .pointer (some ⟨b', 0, none⟩)) (hc' : Reads W b' 0 [v']) : (results fn (fr n ds l).tmps).run Try.prog W = .ok (.tuple #[v, v']) W := by
  unfold results
  rw [hr]
  have h0 : (fr n ds l).tmps[t]?.getD undef = .pointer (some ⟨b, 0, none⟩) := by rw [← Array.getD_eq_getD_getElem?, fr_getD, hv]
  have h1 : (fr n ds l).tmps[t']?.getD undef = .pointer (some ⟨b', 0, none⟩) := by rw [← Array.getD_eq_getD_getElem?, fr_getD, hv']
  simp [h0, h1, asAddr, loadVar_one hT hc, loadVar_one hT' hc']
/-! ### Boxes of slices -/
def IsSl (v : Value) : Prop := ∃ p n c, v = .slice p n c
theorem OutG.isSl {v : Value} {e : Option (Nat × Obj)} {d : List α} (h : OutG v e T d) : IsSl v := by
  rcases h with ⟨rfl, _⟩ | ⟨_, _, _, rfl, _⟩
  · exact ⟨_, _, _, rfl⟩
  · exact ⟨_, _, _, rfl⟩
theorem Sl.isSl {v : Value} {xs : List α} (h : Sl W v xs) : IsSl v := by
  obtain ⟨p, c, rfl⟩ := h.len
  exact ⟨_, _, _, rfl⟩
theorem WL.store1 {b : Nat} {E : TypeId} {u v : Value} (hv : IsSl v) (hT : ∀ W, (Go.sizeOf T).run Try.prog W = .ok 1 W) (hS : St w0 own pins W) (i : Nat) (hi : own[i]? = some (b, .cells #[u] E (0, 0))) (hg : o.guard = none) (hd : o.dst = none) (ho : o.op = .store T x y)
    (hx : ev n l x = .pointer (some ⟨b, 0, none⟩)) (hy : ev n l y = v) (own' : List (Nat × Obj)) (hown : own.set i (b, .cells #[v] E (0, 0)) = own')
    (hK : ∀ W', St w0 own' pins W' → WL r ops Q rest (fr n ds l) W') : WL r ops Q (o :: rest) (fr n ds l) W := by
  obtain ⟨p, m, c, rfl⟩ := hv
  exact WL.store hT hS i hi hg hd ho hx hy rfl rfl rfl rfl own' hown hK
theorem setRow_same {b : Nat} {C : Array Value} {fz : Nat × Nat} (h : W.heap[b]? = some (.cells C E fz)) : W.setRow b C = W := by
  have hs : (W.setRow b C).heap = W.heap := by
    apply Array.ext
    · simp [World.setRow]
    · intro i h1 h2
      by_cases hb : i = b
      · subst hb
        have e := setRow_heap W i C C E fz h
        rw [Array.getElem?_eq_getElem h1] at e
        rw [Array.getElem?_eq_getElem h2] at h
        exact (Option.some.inj e).trans (Option.some.inj h).symm
      · simp [World.setRow, Array.getElem_modify, Ne.symm hb]
  unfold World.setRow at hs ⊢
  simp only at hs
  rw [hs]
/-- What lies there is stored once more. -/
theorem dr_same {b i : Nat} {v : Value} (hv : IsSl v) (hT : ∀ W, (Go.sizeOf T).run Try.prog W = .ok 1 W) (hS : St w0 own pins W) (hi : own[i]? = some (b, .cells #[v] E (0, 0))) (ho : o.op = .store T x y)
    (hx : ev n l x = .pointer (some ⟨b, 0, none⟩)) (hy : ev n l y = v) : DrRun Try.prog ((execOp (fr n ds l).eval o).run Try.prog W) W (fun _ _ => True) (fun _ _ => True) := by
  rw [fr_eval]
  obtain ⟨p, m, c, rfl⟩ := hv
  have hb := hS.at i hi
  have hst := run_storeCells_at Try.prog b 0 E [.slice p m c] 0 #[.slice p m c] W hb (by simp) (fun u hu => by simp at hu; subst hu; rfl)
  refine .inr (.inl ⟨W, ?_, Bw.refl W, trivial, trivial⟩)
  have e : ((#[Value.slice p m c].toList.take (0 + 0) ++ [Value.slice p m c] ++ #[Value.slice p m c].toList.drop (0 + 0 + [Value.slice p m c].length)).toArray) = #[.slice p m c] := rfl
  rw [e, setRow_same hb] at hst
  simp [execOp, ho, hx, hy, Instr.storeAt, Instr.sureAddr, storeVar, hT, Value.cells, hst]
/-! ### Pins of rows of rows -/
theorem St.pinOrB {β : Type} [Enc β] {W0 : World} {pins' : List Pin} {v v' : Value} {xs : List α} {l' : List β} (h0 : St w0 own pins W0) (h : St w0 own pins' W') (hp : pinSl v xs ∈ pins) (h' : Sl W' v' l') (hor : New W0 v' ∨ vblk v' = vblk v) : St w0 own (pinSl v' l' :: pins') W' := by
  rcases hor with hn | hb
  · exact h0.pinNew h (pinSl v' l') h' hn
  · exact h.addPin (pinSl v' l') h' (fun b hb' => (h0.pin _ hp).2 b (show vblk v = some b by rw [← hb]; exact hb'))
/-- A block that is read alone. -/
def pinObj (b : Nat) (ob : Obj) : Pin := ⟨(· = b), fun W => W.heap[b]? = some ob, fun _ _ h hr => (h b rfl).trans hr, fun _ h _ hb => hb ▸ (Array.getElem?_eq_some_iff.1 h).1⟩
theorem St.repinT {ps qs ip : List Pin} (h : St w0 own (qs ++ ip) W) (m : Nat) (h2 : AllIn ps qs) : St w0 (own.drop m) (ps ++ ip) W := h.sub (List.drop_sublist _ _) (fun p hp => by
  rcases List.mem_append.1 hp with hp | hp
  · exact List.mem_append_left _ (h2.get p hp)
  · exact List.mem_append_right _ hp)
theorem St.repin0 {ps qs ip : List Pin} (h : St w0 own (qs ++ ip) W) (h2 : AllIn ps qs) : St w0 own (ps ++ ip) W := h.repinT 0 h2
theorem St.pinSSnil (h : St w0 own pins W) : St w0 own (pinSS [] [] :: pins) W := h.addPin _ SS.nil (fun b hb => by obtain ⟨i, s, li, h1, _⟩ := hb; cases h1)
theorem SS.snoc {vs : List Sv} {ls : List (List At)} (h : SS W vs ls) (hl : vs.length = ls.length) {s : Sv} {li : List At} (hs : Sl W s.v li) : SS W (vs ++ [s]) (ls ++ [li]) := fun j t lj h1 h2 => by
  rw [List.getElem?_append] at h1 h2
  split at h1
  · rename_i hj; rw [if_pos (by omega)] at h2; exact h j t lj h1 h2
  · rename_i hj
    rw [if_neg (by omega)] at h2
    have e1 : j - vs.length = 0 := by have := (List.getElem?_eq_some_iff.1 h1).1; simp at this; omega
    have e2 : j - ls.length = 0 := by omega
    rw [e1] at h1; rw [e2] at h2
    cases h1; cases h2; exact hs
theorem St.ssSnoc {vs : List Sv} {ls : List (List At)} {s : Sv} {li : List At} (h : St w0 own pins W) (h1 : pinSS vs ls ∈ pins) (h2 : pinSl s.v li ∈ pins) (hl : vs.length = ls.length) : St w0 own (pinSS (vs ++ [s]) (ls ++ [li]) :: pins) W :=
  h.addPin _ (SS.snoc (h.mem h1) hl (h.mem h2)) fun b hb => by
    obtain ⟨i, t, lj, e1, e2, hb⟩ := hb
    rw [List.getElem?_append] at e1 e2
    split at e1
    · rename_i hj; rw [if_pos (by omega)] at e2; exact (h.pin _ h1).2 b ⟨i, t, lj, e1, e2, hb⟩
    · have : t = s := by
        have := List.mem_of_getElem? e1
        simpa using this
      subst this
      exact (h.pin _ h2).2 b hb
theorem St.ssErase {vs : List Sv} {ls : List (List At)} (h : St w0 own pins W) (h1 : pinSS vs ls ∈ pins) (i : Nat) : St w0 own (pinSS (vs.eraseIdx i) (ls.eraseIdx i) :: pins) W :=
  h.addPin _ (fun j s li e1 e2 => by
    rw [List.getElem?_eraseIdx] at e1 e2
    split at e1
    · rename_i hj; rw [if_pos hj] at e2; exact (h.mem h1 : SS W vs ls) j s li e1 e2
    · rename_i hj; rw [if_neg hj] at e2; exact (h.mem h1 : SS W vs ls) _ s li e1 e2) fun b hb => by
    obtain ⟨j, s, li, e1, e2, hb⟩ := hb
    rw [List.getElem?_eraseIdx] at e1 e2
    split at e1
    · rename_i hj; rw [if_pos hj] at e2; exact (h.pin _ h1).2 b ⟨j, s, li, e1, e2, hb⟩
    · rename_i hj; rw [if_neg hj] at e2; exact (h.pin _ h1).2 b ⟨_, s, li, e1, e2, hb⟩
theorem St.ssSet {vs : List Sv} {ls : List (List At)} (h : St w0 own pins W) (h1 : pinSS vs ls ∈ pins) (i : Nat) : St w0 own (pinSS (vs.set i (Sv.mk none 0 0)) (ls.set i []) :: pins) W := by
  refine h.addPin _ (fun j t lj e1 e2 => ?_) (fun b hb => ?_)
  · rw [List.getElem?_set] at e1 e2
    split at e1
    · rename_i hij
      rw [if_pos hij] at e2
      split at e1
      · split at e2
        · cases e1; cases e2; exact Sl.nil
        · cases e2
      · cases e1
    · rename_i hij; rw [if_neg hij] at e2; exact (h.mem h1 : SS W vs ls) j t lj e1 e2
  · obtain ⟨j, t, lj, e1, e2, hb⟩ := hb
    rw [List.getElem?_set] at e1 e2
    split at e1
    · split at e1
      · cases e1; cases hb
      · cases e1
    · rename_i hij; rw [if_neg hij] at e2; exact (h.pin _ h1).2 b ⟨j, t, lj, e1, e2, hb⟩
/-- A new slice of new slices. -/
structure RowsNew (w w' : World) (v : Value) (ls : List (List At)) (vs : List Sv) : Prop where
  sl : Sl w' v vs
  ss : SS w' vs ls
  len : vs.length = ls.length
  new : New w v
  news : ∀ s ∈ vs, New w s.v
  cap : Capd v
theorem St.newRows {vs : List Sv} {ls : List (List At)} {v : Value} (h : St w0 own pins W) (hB : Bw W W') (hR : RowsNew W W' v ls vs) : St w0 own (pinSS vs ls :: pinSl v vs :: pins) W' := by
  have h1 := h.newPin hB (pinSl v vs) hR.sl hR.new
  refine h1.addPin _ hR.ss (fun b hb hm => ?_)
  obtain ⟨i, s, li, e1, e2, hb⟩ := hb
  obtain ⟨q, hq, hqb⟩ := List.mem_map.1 hm
  have := h.lt hq
  have := hR.news s (List.mem_of_getElem? e1) b hb
  omega
theorem SS.eraseIdx {vs : List Sv} {ls : List (List At)} (h : SS W vs ls) (i : Nat) : SS W (vs.eraseIdx i) (ls.eraseIdx i) := fun j s li h1 h2 => by
  rw [List.getElem?_eraseIdx] at h1 h2
  split at h1
  · rename_i hj; rw [if_pos hj] at h2; exact h j s li h1 h2
  · rename_i hj; rw [if_neg hj] at h2; exact h _ s li h1 h2
theorem SS.set {vs : List Sv} {ls : List (List At)} (h : SS W vs ls) (i : Nat) (hl : vs.length = ls.length) {s : Sv} {li : List At} (hs : Sl W s.v li) : SS W (vs.set i s) (ls.set i li) := fun j t lj h1 h2 => by
  rw [List.getElem?_set] at h1 h2
  split at h1
  · rename_i hij
    rw [if_pos hij] at h2
    split at h1
    · split at h2
      · cases h1; cases h2; exact hs
      · cases h2
    · cases h1
  · rename_i hij; rw [if_neg hij] at h2; exact h j t lj h1 h2
end
end Go.Proofs.Ythidakffgcjjiaa
