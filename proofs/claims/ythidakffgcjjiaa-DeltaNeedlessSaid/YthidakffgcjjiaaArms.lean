/- Steps of a walk: len of a map, a row made with room, a step of a range over a map, append within room, structs stored into fresh boxes. -/
import Derived.Test.YthidakffgcjjiaaOut
import Derived.Maps.RangeWalk
namespace Go.Proofs.Ythidakffgcjjiaa
open Go.RowKit Go.Sort Go.Lib Go.Shelf
open Go.ChangeMaps (setBlock)

theorem Ext.setBlock {w W : World} (h : Ext w W) {b : Nat} (hb : w.heap.size ≤ b) (o : Obj) : Ext w (setBlock W b o) := by
  have e : Go.ChangeMaps.setBlock W b o = { W with heap := W.heap.modify b (fun _ => o) } := by
    unfold Go.ChangeMaps.setBlock
    congr 1
  rw [e]
  exact h.mapBlock hb _

theorem setBlock_other (W : World) {r k : Nat} (o : Obj) (hk : k ≠ r) : (setBlock W r o).heap[k]? = W.heap[k]? := by simp [setBlock, Ne.symm hk]
theorem setBlock_size (W : World) (r : Nat) (o : Obj) : (setBlock W r o).heap.size = W.heap.size := by simp [setBlock]

section
variable {ops : Array Oper} {rest : List Oper} {o : Oper} {a : Act} {w : World} {Q : Exit → Act → World → Prop}

theorem wpList_len82 {b : Nat} {l : List (Ky × Vl)} {x : Operand} (hg : o.guard = none) (ho : o.op = Op.call { callee := Callee.builtin Builtin.len, args := #[x], argTypes := #[82] }) (hx : a.eval x = .map (some b)) (hM : MapAt w b l)
    (hK : wpList Try.prog ops Q rest (a.put o.dst (.int .i64 l.length)) w) : wpList Try.prog ops Q (o :: rest) a w := by
  refine wpList_plain hg fun K' hK' => ?_
  obtain ⟨es, clock, hb, hl, _⟩ := hM
  have hs : es.size = l.length := by have := congrArg List.length hl; simpa using this
  have : (execOp a.eval o).run Try.prog w = .ok (.value (.int .i64 l.length)) w := by
    simp [execOp, ho, hx, resolve, invoke, builtin, Builtin.len_, Result.andThen, MapKept.run_getObj_map hb, hs, goInt]
  unfold Oper.wp
  rw [this]
  exact hK' _ _ hK

theorem wpList_make71 {c : Nat} {x y : Operand} (hg : o.guard = none) (ho : o.op = Op.makeSlice 22 x y) (hx : a.eval x = .int .i64 0) (hy : a.eval y = .int .i64 (c : Int)) (hc : c ≤ 1048576)
    (hK : ∀ cs, OutAt (w.alloc (.cells cs 71)) w.heap.size c [] → wpList Try.prog ops Q rest (a.put o.dst (.slice (some ⟨w.heap.size, 0, none⟩) 0 c)) (w.alloc (.cells cs 71))) : wpList Try.prog ops Q (o :: rest) a w := by
  refine wpList_plain hg fun K' hK' => ?_
  obtain ⟨cs, hr, hO⟩ := make71 w c hc
  have : (execOp a.eval o).run Try.prog w = .ok (.value (.slice (some ⟨w.heap.size, 0, none⟩) 0 c)) (w.alloc (.cells cs 71)) := by
    simp only [execOp, ho, hx, hy, Sem.run_bind, hr, Result.andThen_ok, Sem.run_pure]
  unfold Oper.wp
  rw [this]
  exact hK' _ _ (hK cs hO)

theorem wpList_range82 {b : Nat} {l : List (Ky × Vl)} {x : Operand} (hg : o.guard = none) (ho : o.op = Op.range 82 x) (hx : a.eval x = .map (some b)) (hM : MapAt w b l)
    (hK : ∀ ob, IterAt (w.alloc ob) w.heap.size b l [] → wpList Try.prog ops Q rest (a.put o.dst (.pointer (some ⟨w.heap.size, 0, none⟩))) (w.alloc ob)) : wpList Try.prog ops Q (o :: rest) a w := by
  refine wpList_plain hg fun K' hK' => ?_
  obtain ⟨ob, hr, hI⟩ := hM.range
  have : (execOp a.eval o).run Try.prog w = .ok (.value (.pointer (some ⟨w.heap.size, 0, none⟩))) (w.alloc ob) := by
    simp only [execOp, ho, hx, Sem.run_bind, hr, Result.andThen_ok, Sem.run_pure]
  unfold Oper.wp
  rw [this]
  exact hK' _ _ (hK ob hI)

theorem wpList_next82 {r b : Nat} {l done : List (Ky × Vl)} {x : Operand} (hg : o.guard = none) (ho : o.op = Op.next x false) (hx : a.eval x = .pointer (some ⟨r, 0, none⟩)) (hI : IterAt w r b l done)
    (hDone : done.Perm l → wpList Try.prog ops Q rest (a.put o.dst (.tuple #[.bool false])) w)
    (hMore : ∀ p w', IterAt w' r b l (done ++ [p]) → (∀ w0, Ext w0 w → w0.heap.size ≤ r → Ext w0 w') → (∀ k, k ≠ r → w'.heap[k]? = w.heap[k]?) → w'.heap.size = w.heap.size →
      (Instr.entry (.pointer (some ⟨r, 0, none⟩))).run Try.prog w' = .ok (.tuple #[.agg p.1.enc, .agg p.2.enc]) w' → wpList Try.prog ops Q rest (a.put o.dst (.tuple #[.bool true, .agg p.1.enc, .agg p.2.enc])) w') :
    wpList Try.prog ops Q (o :: rest) a w := by
  refine wpList_plain hg fun K' hK' => ?_
  unfold Oper.wp
  rcases hI.next o.type with ⟨hp, hr⟩ | ⟨p, w1, ob, hw1, hr, hI', he⟩
  · have : (execOp a.eval o).run Try.prog w = .ok (.value (.tuple #[.bool false])) w := by
      simp only [execOp, ho, hx, Sem.run_bind, hr, Result.andThen_ok, Sem.run_pure]
    rw [this]
    exact hK' _ _ (hDone hp)
  · have : (execOp a.eval o).run Try.prog w = .ok (.value (.tuple #[.bool true, .agg p.1.enc, .agg p.2.enc])) (setBlock w1 r ob) := by
      simp only [execOp, ho, hx, Sem.run_bind, hr, Result.andThen_ok, Sem.run_pure]
    rw [this]
    refine hK' _ _ (hMore p _ hI' (fun w0 hE hb => ?_) (fun k hk => ?_) ?_ he)
    · rcases hw1 with rfl | rfl
      · exact hE.setBlock hb _
      · exact hE.drew.setBlock hb _
    · rcases hw1 with rfl | rfl
      · exact setBlock_other _ _ hk
      · exact setBlock_other (World.drew _) _ hk
    · rcases hw1 with rfl | rfl
      · exact setBlock_size _ _ _
      · exact setBlock_size (World.drew _) _ _

theorem wpList_append71 {g cap b n : Nat} {d : List At} {v : At} {x y : Operand} (hg : o.guard = none) (ho : o.op = Op.call { callee := Callee.builtin Builtin.append, args := #[x, y], argTypes := #[22, 22] })
    (hx : a.eval x = .slice (some ⟨g, 0, none⟩) n cap) (hy : a.eval y = .slice (some ⟨b, 0, none⟩) 1 1) (hO : OutAt w g cap d) (hn : n = d.length) (hC : C21 w b 0 v) (hroom : d.length + 1 ≤ cap)
    (hK : ∀ cs, OutAt (w.setRow g cs) g cap (d ++ [v]) → wpList Try.prog ops Q rest (a.put o.dst (.slice (some ⟨g, 0, none⟩) (d ++ [v]).length cap)) (w.setRow g cs)) : wpList Try.prog ops Q (o :: rest) a w := by
  refine wpList_plain hg fun K' hK' => ?_
  subst hn
  obtain ⟨cs, hr, hO'⟩ := append71 hO hC hroom o.type
  have : (execOp a.eval o).run Try.prog w = .ok (.value (.slice (some ⟨g, 0, none⟩) (d ++ [v]).length cap)) (w.setRow g cs) := by
    simp only [execOp, ho, resolve, Sem.run_bind, Sem.run_pure, Result.andThen_ok, invoke, builtin, List.map_toArray, List.map_cons, List.map_nil, hx, hy, hr]
  unfold Oper.wp
  rw [this]
  exact hK' _ _ (hK cs hO')

/-- A struct stored into its box, which lies last. -/
theorem wpList_storeNew {T : TypeId} {c v : Array Value} {p x : Operand} (hg : o.guard = none) (ho : o.op = Op.store T p x) (hd : o.dst = none) (hp : a.eval p = .pointer (some ⟨w.heap.size, 0, none⟩)) (hx : a.eval x = .agg v) (hi : (Try.prog.info? T).map (·.size) = some v.size) (hc : c.size = v.size) (h1 : v.all (·.oneCell') = true)
    (hK : wpList Try.prog ops Q rest a (w.alloc (.cells v T))) : wpList Try.prog ops Q (o :: rest) a (w.alloc (.cells c T)) := by
  refine wpList_plain hg fun K' hK' => ?_
  have := run_storeAt_new (P := Try.prog) w T c v hi hc h1
  unfold Oper.wp
  simp only [execOp, ho, hp, hx, Sem.run_bind, this, Result.andThen_ok, Sem.run_pure]
  exact hK' _ _ (by rw [hd]; exact hK)
theorem setRow_behind (w : World) (c v : Array Value) (T : TypeId) (ob : Obj) : ((w.alloc (.cells c T)).alloc ob).setRow w.heap.size v = (w.alloc (.cells v T)).alloc ob := by
  have h1 := World.setRow_alloc_new w c v T
  unfold World.setRow World.alloc at *
  simp only [World.mk.injEq, and_true] at h1 ⊢
  have h2 : (w.heap.push (Obj.cells c T)).push ob = w.heap.push (Obj.cells c T) ++ #[ob] := by simp
  rw [h2, modify_append_left _ _ _ _ (by simp), h1]
  simp
/-- .. which lies last but one. -/
theorem wpList_storeNew2 {T : TypeId} {ob : Obj} {c v : Array Value} {p x : Operand} (hg : o.guard = none) (ho : o.op = Op.store T p x) (hd : o.dst = none) (hp : a.eval p = .pointer (some ⟨w.heap.size, 0, none⟩)) (hx : a.eval x = .agg v) (hi : (Try.prog.info? T).map (·.size) = some v.size) (hc : c.size = v.size) (h1 : v.all (·.oneCell') = true)
    (hK : wpList Try.prog ops Q rest a ((w.alloc (.cells v T)).alloc ob)) : wpList Try.prog ops Q (o :: rest) a ((w.alloc (.cells c T)).alloc ob) := by
  refine wpList_plain hg fun K' hK' => ?_
  have hg0 : ((w.alloc (.cells c T)).alloc ob).heap[w.heap.size]? = some (.cells c T (0, 0)) := ((MapKept.heap_alloc _ ob).2 _ (by simp)).trans (MapKept.heap_alloc w _).1
  have := run_storeVar_row (P := Try.prog) _ w.heap.size T T c v hg0 hi hc h1
  rw [setRow_behind] at this
  unfold Oper.wp
  simp only [execOp, ho, hp, hx, Instr.storeAt, Instr.sureAddr, Sem.run_bind, Sem.run_pure, this, Result.andThen_ok]
  exact hK' _ _ (by rw [hd]; exact hK)
end
theorem Ky.one (a : Ky) : a.enc.all (·.oneCell') = true := by
  simp only [Ky.enc, List.all_toArray]; rfl
theorem Vl.one (a : Vl) : a.enc.all (·.oneCell') = true := by
  simp only [Vl.enc, List.all_toArray]; rfl
theorem info61 : (Try.prog.info? 61).map (·.size) = some 12 := by kernel_rfl
theorem info67 : (Try.prog.info? 67).map (·.size) = some 9 := by kernel_rfl
end Go.Proofs.Ythidakffgcjjiaa
