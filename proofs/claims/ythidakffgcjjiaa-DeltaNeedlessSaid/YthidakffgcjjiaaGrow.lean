/- Rows that a walk makes by append; elements of pinned slices, opened ahead; results that lie in cells. -/
import Derived.Test.YthidakffgcjjiaaCons
import Derived.Maps.AppendAt
namespace Go.Proofs.Ythidakffgcjjiaa
open Go.RowKit Go.Sort

section
variable {α : Type} [Enc α]
def flatE (d : List α) : List Value := d.flatMap (fun a => (Enc.val a).cells.toList)
theorem flatE_len : ∀ d : List α, (flatE d).length = d.length * Enc.sz α
  | [] => by simp [flatE]
  | a :: d => by
    have h := flatE_len d
    have h1 : ((Enc.val a).cells.toList).length = Enc.sz α := by rw [Array.length_toList]; exact Enc.hsz a
    unfold flatE at h ⊢
    rw [List.flatMap_cons, List.length_append, h, h1, List.length_cons, Nat.succ_mul, Nat.add_comm]
theorem flatE_append (d e : List α) : flatE (d ++ e) = flatE d ++ flatE e := by simp [flatE]
theorem flatE_get : ∀ (d : List α) (i : Nat) (a : α), d[i]? = some a → ((flatE d).drop (i * Enc.sz α)).take (Enc.sz α) = (Enc.val a).cells.toList
  | [], _, _, h => by cases h
  | x :: d, i, a, h => by
    have hlen : ∀ a : α, ((Enc.val a).cells.toList).length = Enc.sz α := fun a => by rw [Array.length_toList]; exact Enc.hsz a
    unfold flatE
    rw [List.flatMap_cons]
    cases i with
    | zero =>
      cases h
      rw [Nat.zero_mul, List.drop_zero, ← hlen x, List.take_left]
    | succ i =>
      have h' : d[i]? = some a := by simpa using h
      have e : (i + 1) * Enc.sz α = ((Enc.val x).cells.toList).length + i * Enc.sz α := by rw [hlen, Nat.succ_mul, Nat.add_comm]
      rw [e, ← List.drop_drop, List.drop_left]
      exact flatE_get d i a h'
theorem flatE_one (d : List α) : ∀ u ∈ flatE d, u.oneCell' = true := by
  intro u hu
  obtain ⟨a, _, h⟩ := List.mem_flatMap.1 hu
  exact Enc.one a u h

/-- A row that grows: nil, or a block of its own (e) of which the first cells are d's. -/
def OutG (v : Value) (e : Option (Nat × Obj)) (T : TypeId) (d : List α) : Prop :=
  (v = .slice none 0 0 ∧ e = none ∧ d = []) ∨ ∃ g cap cur, v = .slice (some ⟨g, 0, none⟩) d.length cap ∧ e = some (g, .cells cur T (0, 0)) ∧ d.length ≤ cap ∧ cap ≤ maxLen ∧ cur.size = cap * Enc.sz α ∧ cur.toList.take (d.length * Enc.sz α) = flatE d
theorem OutG.nil {T : TypeId} : OutG (.slice none 0 0) none T ([] : List α) := .inl ⟨rfl, rfl, rfl⟩
variable {w0 W W' : World} {own pre : List (Nat × Obj)} {pins : List Pin} {e : Option (Nat × Obj)} {v : Value} {T : TypeId} {d : List α}

theorem OutG.sl (h : OutG v e T d) (hS : St w0 (pre ++ e.toList) pins W) (hl : d.length < 4611686018427387904) : Sl W v d ∧ New w0 v := by
  rcases h with ⟨rfl, rfl, rfl⟩ | ⟨g, cap, cur, rfl, rfl, h1, h2, h3, h4⟩
  · exact ⟨Sl.nil, fun b hb => by cases hb⟩
  · have hi : (pre ++ (some (g, Obj.cells cur T (0, 0))).toList)[pre.length]? = some (g, .cells cur T (0, 0)) := by simp
    have hb := hS.at pre.length hi
    refine ⟨.inr ⟨g, 0, cap, rfl, hl, hS.at_lt pre.length hi, fun i a hia => ?_⟩, fun b hb => by rw [vblk_eq hb]; exact hS.ge pre.length hi⟩
    refine Reads.of_block hb _ _ ?_
    have hil := (List.getElem?_eq_some_iff.1 hia).1
    have hlen : ((Enc.val a).cells.toList).length = Enc.sz α := by rw [Array.length_toList]; exact Enc.hsz a
    rw [hlen, Nat.zero_add]
    have h5 := flatE_get d i a hia
    rw [← h4, List.drop_take, List.take_take] at h5
    have h6 : (i + 1) * Enc.sz α ≤ d.length * Enc.sz α := Nat.mul_le_mul_right _ hil
    rw [Nat.succ_mul] at h6
    rwa [Nat.min_eq_left (by omega)] at h5

/-- A row of one's own is turned or moved. -/
theorem St.regrow (h : St w0 (pre ++ e.toList) pins W) {row : Option Nat} (hg : W.grownBy W' row) (hrow : ∀ g, row = some g → ∃ o, e = some (g, o)) {g' : Nat} {o' : Obj} (hnew : W'.heap[g']? = some o') (hg' : row = some g' ∨ W.heap.size ≤ g') : St w0 (pre ++ (some (g', o')).toList) pins W' := by
  have hndall := h.nd
  have hrge : ∀ g, row = some g → w0.heap.size ≤ g ∧ g < W.heap.size ∧ g ∉ pre.map Prod.fst ∧ (∀ p ∈ pins, ¬ p.foot g) := by
    intro g hr
    obtain ⟨o, rfl⟩ := hrow g hr
    have hm : (g, o) ∈ pre ++ (some (g, o)).toList := by simp
    refine ⟨(h.hold _ hm).2, h.lt hm, fun hp => ?_, fun p hp hf => (h.pin p hp).2 g hf (List.mem_map.2 ⟨_, hm, rfl⟩)⟩
    rw [List.map_append, List.nodup_append] at hndall
    exact hndall.2.2 g hp g (by simp) rfl
  refine ⟨⟨hg.os.trans h.bw.os, hg.tape.trans h.bw.tape, hg.output.trans h.bw.output, Nat.le_trans h.bw.size hg.size, fun k hk => ?_⟩, ?_, ?_, ?_⟩
  · have h1 := h.bw.size
    exact (hg.block k (by omega) (fun e' => by have := (hrge k e'.symm).1; omega)).trans (h.bw.heap hk)
  · intro p hp
    rcases List.mem_append.1 hp with hp | hp
    · have hm : p ∈ pre ++ e.toList := List.mem_append_left _ hp
      exact ⟨(hg.block p.1 (h.lt hm) (fun e' => (hrge p.1 e'.symm).2.2.1 (List.mem_map.2 ⟨p, hp, rfl⟩))).trans (h.hold p hm).1, (h.hold p hm).2⟩
    · simp only [Option.toList_some, List.mem_singleton] at hp
      subst hp
      refine ⟨hnew, ?_⟩
      rcases hg' with hg' | hg'
      · exact (hrge g' hg').1
      · exact Nat.le_trans h.bw.size hg'
  · rw [List.map_append, List.nodup_append]
    rw [List.map_append, List.nodup_append] at hndall
    refine ⟨hndall.1, by simp, fun a ha b hb e' => ?_⟩
    simp only [Option.toList_some, List.map_cons, List.map_nil, List.mem_singleton] at hb
    subst hb e'
    rcases hg' with hg' | hg'
    · exact (hrge _ hg').2.2.1 ha
    · obtain ⟨p, hp, rfl⟩ := List.mem_map.1 ha
      have := h.lt (List.mem_append_left _ hp)
      omega
  · intro p hp
    have hpo := h.pin p hp
    refine ⟨p.loc W W' (fun b hb => hg.block b (p.inn W hpo.1 b hb) (fun e' => (hrge b e'.symm).2.2.2 p hp hb)) hpo.1, fun b hb hm => ?_⟩
    rw [List.map_append, List.mem_append] at hm
    rcases hm with hm | hm
    · exact hpo.2 b hb (by rw [List.map_append]; exact List.mem_append_left _ hm)
    · simp only [Option.toList_some, List.map_cons, List.map_nil, List.mem_singleton] at hm
      subst hm
      rcases hg' with hg' | hg'
      · exact (hrge _ hg').2.2.2 p hp hb
      · have := p.inn W hpo.1 _ hb
        omega

section
variable {r : Option Nat} {ops : Array Oper} {Q : Post} {rest : List Oper} {o : Oper} {n : Nat} {ds : List Deferred} {l : Fr} {dd : Nat} {x y : Operand}
/-- append of one element to a row of one's own. -/
theorem WL.append {a : α} {S : TypeId} {z : Value} {bytes : Nat} {vx : Value} (hSl : Try.prog.underlying S = some (.slice T)) (hinfo : (Try.prog.info? T).map (fun i => (i.zero, i.size, i.bytes)) = some (some z, Enc.sz α, bytes)) (hz : z.cells.size = Enc.sz α) (hsz : 0 < Enc.sz α) (hby : bytes ≤ 1024)
    (pre : List (Nat × Obj)) (hO : OutG v e T d) (hS : St w0 (pre ++ e.toList) pins W) (hx : Sl W vx [a]) (hd : d.length ≤ 4194304)
    (hg : o.guard = none) (hdst : o.dst = some dd) (hn : Nat.blt dd n = true) (ho : o.op = .call { callee := .builtin .append, args := #[x, y], argTypes := #[S, S] }) (hxv : ev n l x = v) (hyv : ev n l y = vx)
    (hK : ∀ v' e' W', OutG v' e' T (d ++ [a]) → St w0 (pre ++ e'.toList) pins W' → WL r ops Q rest (fr n ds ((dd, v') :: l)) W') : WL r ops Q (o :: rest) (fr n ds l) W := by
  obtain ⟨i, hi, hz0, hz1, hz2⟩ := info_parts hinfo
  have hown : W.ownsRow w0.heap.size T (Enc.sz α) v d.length (flatE d) := by
    refine ⟨flatE_len d, ?_⟩
    rcases hO with ⟨rfl, rfl, rfl⟩ | ⟨g, cap, cur, rfl, rfl, h1, h2, h3, h4⟩
    · exact .inl ⟨rfl, rfl⟩
    · have hi : (pre ++ (some (g, Obj.cells cur T (0, 0))).toList)[pre.length]? = some (g, .cells cur T (0, 0)) := by simp
      exact .inr ⟨g, cap, cur, rfl, hS.ge pre.length hi, hS.at pre.length hi, h1, h2, h3, h4⟩
  rcases hx with ⟨_, _, _, h0⟩ | ⟨bx, ox, cx, rfl, _, _, hrx⟩
  · cases h0
  have hr := hrx 0 a rfl
  rw [Nat.zero_mul, Nat.add_zero] at hr
  obtain ⟨v', W', hrun, hown', hgrow, _, hblk⟩ := run_append_own_at (P := Try.prog) (w := W) w0.heap.size S o.type T i z (Enc.sz α) bytes hSl hi hz0 hz1 hz2 hz hsz v d.length (flatE d) hown ⟨bx, ox, none⟩ 1 cx (flatE [a]) (by rw [flatE_len]; rfl)
    (fun j u hu => by
      rw [Addr.add_lit]
      refine hr.2 j u ?_
      simpa [flatE] using hu)
    (flatE_one _) (by unfold maxLen; omega) (by
      have : (d.length + 1) * bytes ≤ 4194305 * 1024 := Nat.mul_le_mul (by omega) hby
      omega) hS.bw.size
  obtain ⟨e', hO', hS'⟩ : ∃ e', OutG v' e' T (d ++ [a]) ∧ St w0 (pre ++ e'.toList) pins W' := by
    obtain ⟨_, hc⟩ := hown'
    rcases hc with ⟨_, h0⟩ | ⟨g, cap, cur, rfl, hge, hgb, hnc, hcm, hcs, htake⟩
    · exact absurd h0 (by omega)
    · refine ⟨some (g, .cells cur T (0, 0)), .inr ⟨g, cap, cur, by simp, rfl, by simpa using hnc, hcm, hcs, ?_⟩, ?_⟩
      · rw [flatE_append, ← htake]; simp
      · refine hS.regrow hgrow (fun g0 hg0 => ?_) hgb ?_
        · rcases hO with ⟨rfl, rfl, rfl⟩ | ⟨g1, cap1, cur1, rfl, rfl, _⟩
          · cases hg0
          · cases hg0; exact ⟨_, rfl⟩
        · rcases hblk with hb | hb
          · exact .inl hb.symm
          · right
            have : g = W.heap.size := by simpa [Value.ownBlock] using hb
            omega
  refine WL.op hg hdst hn (v := v') (W' := W') ?_ (hK v' e' W' hO' hS')
  simp [Ex, execOp, ho, resolve, invoke, builtin, hxv, hyv, hrun]

/-- An element of a pinned slice, opened: where it lies. -/
theorem St.elem {S E : TypeId} {v : Value} {xs : List α} {k : Nat} (h : St w0 own pins W) (hp : pinSl v xs ∈ pins) (hSl : Try.prog.underlying S = some (.slice E)) (hE : ∀ W, (Go.sizeOf E).run Try.prog W = .ok (Enc.sz α) W) (hk : k < xs.length) :
    ∃ b p x, xs[k]? = some x ∧ (∀ W, (Instr.indexAt S v (.int .i64 (k : Int))).run Try.prog W = .ok (.pointer (some ⟨b, p, none⟩)) W) ∧ St w0 own (pinReads b p (Enc.val x).cells.toList :: pins) W := by
  have hs : Sl W v xs := h.mem hp
  have hfoot := (h.pin _ hp).2
  rcases hs with ⟨_, _, _, rfl⟩ | ⟨b, off, cap, rfl, hl, hb, hr⟩
  · exact absurd hk (by simp)
  · exact ⟨b, _, xs[k], by simp, fun W => run_indexAt_sl hSl hE hk, h.addPin _ (hr k _ (by simp)) (fun k' hk' => by cases hk'; exact hfoot b (vblk_pos (by omega)))⟩
theorem Ex.indexC {ρ : Operand → Value} {S : TypeId} {k : Int} {u : Value} (hi : ∀ W, (Instr.indexAt S v (.int .i64 k)).run Try.prog W = .ok u W) (ho : o.op = .indexAddr S x y) (hx : ρ x = v) (hy : ρ y = .int .i64 k) : Ex ρ o W u W := by simp [Ex, execOp, ho, hx, hy, hi]
end
end
theorem wrap_pred {k : Nat} (h : 0 < k) (h2 : k ≤ 9223372036854775807) : IntKind.i64.wrap ((k : Int) - 1) = ((k - 1 : Nat) : Int) := by
  rw [wrap_i64 (by omega) (by omega)]; omega
section
variable {n : Nat} {l : Fr} {W : World}
/-- Results: a cell, and a slot. -/
theorem rtC2 {fn : Func} {t t' b : Nat} {T : TypeId} {cs : List Value} {m : Nat} {v' : Value} {R : Ending → World → Prop} (hr : fn.results = #[.cell t T, .tmp t']) (hT : TyAgg T m) (hv : ev n l (.tmp t) = .pointer (some ⟨b, 0, none⟩)) (hc : Reads W b 0 cs) (hm : cs.length = m) (hv' : ev n l (.tmp t') = v') (h : R (.returned (.tuple #[.agg cs.toArray, v'])) W) : bodyPost Try.prog fn R .ret (fr n [] l) W := by
  refine ⟨rfl, _, ?_, h⟩
  unfold results
  rw [hr]
  have h0 : (fr n [] l).tmps[t]?.getD undef = .pointer (some ⟨b, 0, none⟩) := by rw [← Array.getD_eq_getD_getElem?, fr_getD, hv]
  have h1 : (fr n [] l).tmps[t']?.getD undef = v' := by rw [← Array.getD_eq_getD_getElem?, fr_getD, hv']
  simp [h0, h1, asAddr, loadVar_agg hT hc hm]
end
end Go.Proofs.Ythidakffgcjjiaa
