/- Rules for the ends of pieces of code, guarded operations, calls, maps. -/
import Derived.Test.YthidakffgcjjiaaOps
import Derived.Test.YthidakffgcjjiaaMaps
import Derived.Test.YthidakffgcjjiaaDraw
namespace Go.Proofs.Ythidakffgcjjiaa
open Go.RowKit Go.Sort
open Go.ChangeMaps (setBlock)

section
variable {r : Option Nat} {ops : Array Oper} {Q : Post} {rest : List Oper} {o : Oper} {n : Nat} {ds : List Deferred} {l : Fr} {W W' w0 : World} {own : List (Nat × Obj)} {pins : List Pin} {d : Nat} {x y : Operand} {T : TypeId} {a : Act}
theorem then_normal {K : Act → World → Prop} (h : K a W) : Exit.then K Q .normal a W := h
theorem then_exit {K : Act → World → Prop} {id : Nat} (h : Q (.exit id) a W) : Exit.then K Q (.exit id) a W := h
theorem then_ret {K : Act → World → Prop} (h : Q .ret a W) : Exit.then K Q .ret a W := h
theorem inBlock_normal {id : Nat} (h : Q .normal a W) : Exit.inBlock id Q .normal a W := h
theorem inBlock_ret {id : Nat} (h : Q .ret a W) : Exit.inBlock id Q .ret a W := h

/-- Ways that meet again: what holds where they do. -/
theorem WP.cut {x y : Code} (J : Act → World → Prop) (h : WP r x (Exit.then J Q) a W) (hJ : ∀ a W, J a W → WP r y Q a W) : WP r (.seq x y) Q a W :=
  WP.seq (h.mono fun e a w q => by cases e <;> first | exact hJ _ _ q | exact q)
def Oks (w : World) : List Pin → Prop
  | [] => True
  | p :: ps => p.ok w ∧ Oks w ps
theorem St.begin {w : World} (h : Oks w pins) : St w [] pins w := by
  refine St.init w ?_
  induction pins with
  | nil => intro p hp; cases hp
  | cons q ps ih =>
    intro p hp
    rcases List.mem_cons.1 hp with rfl | hp
    · exact h.1
    · exact ih h.2 p hp
def Keeps (l : Fr) : Fr → Prop
  | [] => True
  | p :: k => look' l p.1 = p.2 ∧ Keeps l k
theorem fr_keep {k : Fr} (h : Keeps l k) : fr n ds l = fr n ds (k ++ l) := by
  refine fr_agains k (by simp) ?_
  induction k with
  | nil => intro p hp; cases hp
  | cons q k ih =>
    intro p hp
    rcases List.mem_cons.1 hp with rfl | hp
    · exact h.1
    · exact ih h.2 p hp

/-- The end of a function: what its results are. -/
theorem rt0 {fn : Func} {R : Ending → World → Prop} (hr : fn.results = #[]) (h : R (.returned (.tuple #[])) W) : bodyPost Try.prog fn R .ret (fr n [] l) W :=
  ⟨rfl, _, results_none hr _ _ _, h⟩
theorem rt0n {fn : Func} {R : Ending → World → Prop} (hr : fn.results = #[]) (h : R (.returned (.tuple #[])) W) : bodyPost Try.prog fn R .normal (fr n [] l) W :=
  ⟨rfl, _, results_none hr _ _ _, h⟩
theorem fr_getD (t : Nat) : (fr n ds l).tmps.getD t undef = ev n l (.tmp t) := by rw [← fr_eval n ds l]; rfl
theorem rt1 {fn : Func} {t : Nat} {v : Value} {R : Ending → World → Prop} (hr : fn.results = #[.tmp t]) (hv : ev n l (.tmp t) = v) (h : R (.returned v) W) : bodyPost Try.prog fn R .ret (fr n [] l) W :=
  ⟨rfl, v, by rw [results_tmp hr, fr_getD, hv], h⟩
theorem rt2 {fn : Func} {t t' : Nat} {v v' : Value} {R : Ending → World → Prop} (hr : fn.results = #[.tmp t, .tmp t']) (hv : ev n l (.tmp t) = v) (hv' : ev n l (.tmp t') = v') (h : R (.returned (.tuple #[v, v'])) W) : bodyPost Try.prog fn R .ret (fr n [] l) W :=
  ⟨rfl, _, by rw [results_tmp2 hr, fr_getD, fr_getD, hv, hv'], h⟩

theorem yielded_fr {j dj : Nat} {b : Bool} (hj : (ops[j]?).bind (·.dst) = some dj) (hn : Nat.blt dj n = true) (hv : ev n l (.tmp dj) = .bool b) : yielded ops (fr n ds l).tmps j = some b := by
  unfold yielded
  rw [hj, Option.bind_some, fr_get, if_pos (blt_iff.1 hn)]
  simp only [ev, hn, cond_true] at hv
  simp only [hv]
/-- A guarded operation that is wanted. -/
theorem WL.on {j dj : Nat} {want b : Bool} {op : Op} {T : TypeId} {pos : String} {after : Array Edge} {dst : Option Tmp} (hj : (ops[j]?).bind (·.dst) = some dj) (hn : Nat.blt dj n = true) (hv : ev n l (.tmp dj) = .bool b) (hb : Value.bool b = .bool want)
    (hK : WL r ops Q ({ dst, op, type := T, pos, after, guard := none } :: rest) (fr n ds l) W) : WL r ops Q ({ dst, op, type := T, pos, after, guard := some (j, want) } :: rest) (fr n ds l) W := by
  cases hb
  have hy := yielded_fr (ds := ds) hj hn hv
  unfold WL wpListIn at hK ⊢
  rw [if_pos (by simp [Region.wanted])] at hK
  rw [if_pos (by simp [Region.wanted, hy])]
  exact hK
/-- A guarded operation that is passed over. -/
theorem WL.off {j dj : Nat} {want b b' : Bool} (hg : o.guard = some (j, want)) (hd : o.dst = some d) (hdn : Nat.blt d n = true) (hj : (ops[j]?).bind (·.dst) = some dj) (hn : Nat.blt dj n = true) (hv : ev n l (.tmp dj) = .bool b) (hb : Value.bool b = .bool b') (hne : (b' == want) = false)
    (hK : WL r ops Q rest (fr n ds ((d, undef) :: l)) W) : WL r ops Q (o :: rest) (fr n ds l) W := by
  cases hb
  have hy := yielded_fr (ds := ds) hj hn hv
  have hw : Region.wanted o (yielded ops (fr n ds l).tmps) = false := by
    simp only [Region.wanted, hg, hy]
    cases b <;> cases want <;> simp at hne ⊢
  unfold WL wpListIn
  rw [if_neg (by rw [hw]; simp)]
  refine ⟨fun _ _ => trivial, ?_⟩
  rw [hd, fr_put hdn]
  exact hK
theorem enterS {ρ : Operand → Value} {f : FuncId} {c : Call} {args : List Value} (eg : ∀ args w, (callFunc f args).run Try.prog w = .ok (.enter f args) w) (ho : o.op = .call c) (hc : c.callee = .value x) (he : ρ x = .func (.func f) #[] #[]) (ha : c.args.toList.map ρ = args) : (execOp ρ o).run Try.prog W = .ok (.enter f args.toArray) W := by
  have h1 : c.args.map ρ = args.toArray := by subst ha; apply Array.ext'; simp
  simp [execOp, ho, resolve, hc, h1, Deferred.ofValue, invoke, eg, he]
theorem enterV {ρ : Operand → Value} {f : FuncId} {c : Call} {caps args : List Value} (eg : ∀ args w, (callFunc f args).run Try.prog w = .ok (.enter f args) w) (ho : o.op = .call c) (hc : c.callee = .value x) (he : ρ x = .func (.func f) #[] caps.toArray) (ha : c.args.toList.map ρ = args) : (execOp ρ o).run Try.prog W = .ok (.enter f (args ++ caps).toArray) W := by
  have h1 : c.args.map ρ = args.toArray := by subst ha; apply Array.ext'; simp
  simp [execOp, ho, resolve, hc, h1, Deferred.ofValue, invoke, eg, he]

theorem WL.keep {k : Fr} (h : Keeps l k) (hK : WL r ops Q rest (fr n ds (k ++ l)) W) : WL r ops Q rest (fr n ds l) W := by rw [fr_keep h]; exact hK

/-! ### Regions that draw their order -/
def MonoAll : List (Value → World → Prop) → Prop
  | [] => True
  | p :: ps => (∀ v w w', Bw w w' → p v w → p v w') ∧ MonoAll ps
theorem MonoAll.get : ∀ {ps : List (Value → World → Prop)}, MonoAll ps → ∀ i v w w', Bw w w' → (ps.getD i (fun _ _ => True)) v w → (ps.getD i (fun _ _ => True)) v w'
  | [], _, i, v, w, w', _, _ => by simp
  | p :: ps, h, 0, v, w, w', hB, hp => h.1 v w w' hB hp
  | p :: ps, h, i + 1, v, w, w', hB, hp => MonoAll.get h.2 i v w w' hB hp
theorem WP.drawL {id : Nat} (m : Nat) (preds : List (Value → World → Prop)) {k : List Oper} (lv : (Nat → Value) → Fr) (hmono : MonoAll preds)
    (hB : drawB k m n = true) (hF : ∀ vs, putL k.toArray vs (List.range m) l = lv vs)
    (hop : DrAll Try.prog k.toArray (fun i v w => (preds.getD i (fun _ _ => True)) v w) (fun _ _ _ => True) (fun vs => fr n ds (lv vs)) W (k.take m) 0)
    (hend : ∀ (vs : Nat → Value) (w' : World), Bw W w' → (∀ i, i < m → (preds.getD i (fun _ _ => True)) (vs i) w') → WL r k.toArray Q (k.drop m) (fr n ds (lv vs)) w') :
    WP r (.region id k.toArray true) Q (fr n ds l) W :=
  WP.draw m (fun i v w => (preds.getD i (fun _ _ => True)) v w) lv hB hF (fun i _ v w1 w' _ h2 h => hmono.get i v w1 w' h2 h) hop hend
theorem dr_ex {v : Value} {R : Value → World → Prop} (h : Ex (ev n l) o W v W') (hB : Bw W W') (hR : R v W') : DrRun Try.prog ((execOp (fr n ds l).eval o).run Try.prog W) W R (fun _ _ => True) := by
  rw [fr_eval]
  exact .inl ⟨v, W', h, hB, hR, trivial⟩
theorem dr_callS {f : FuncId} {args : Array Value} {v : Value} {R : Value → World → Prop} (h : (execOp (ev n l) o).run Try.prog W = .ok (.enter f args) W) (hc : Calls Try.prog f args W (fun e W' => e = .returned v ∧ Bw W W')) (hR : ∀ W', R v W') : DrRun Try.prog ((execOp (fr n ds l).eval o).run Try.prog W) W R (fun _ _ => True) := by
  rw [fr_eval]
  exact .inr (.inr ⟨f, args, h, hc.mono fun e W' ⟨h1, h2⟩ => ⟨v, h1, h2, hR W', trivial⟩⟩)
theorem dr_callE {f : FuncId} {args : Array Value} {R : Value → World → Prop} (h : (execOp (ev n l) o).run Try.prog W = .ok (.enter f args) W) (hc : Calls Try.prog f args W (fun e W' => ∃ v, e = .returned v ∧ Bw W W' ∧ R v W')) : DrRun Try.prog ((execOp (fr n ds l).eval o).run Try.prog W) W R (fun _ _ => True) := by
  rw [fr_eval]
  exact .inr (.inr ⟨f, args, h, hc.mono fun e W' ⟨v, h1, h2, h3⟩ => ⟨v, h1, h2, h3, trivial⟩⟩)
theorem dr_on {j dj : Nat} {want b : Bool} {x : Result Next} {R : Value → World → Prop} {U : Prop} (hg : o.guard = some (j, want)) (hj : (ops[j]?).bind (·.dst) = some dj) (hn : Nat.blt dj n = true) (hv : ev n l (.tmp dj) = .bool b) (hb : Value.bool b = .bool want) (h : DrRun Try.prog x W R (fun _ _ => True)) :
    if Region.wanted o (yielded ops (fr n ds l).tmps) = true then DrRun Try.prog x W R (fun _ _ => True) else U := by
  cases hb
  have hy := yielded_fr (ds := ds) hj hn hv
  rw [if_pos (by simp [Region.wanted, hg, hy])]
  exact h
theorem dr_off {j dj : Nat} {want b b' : Bool} {x : Result Next} {R : Value → World → Prop} (hg : o.guard = some (j, want)) (hj : (ops[j]?).bind (·.dst) = some dj) (hn : Nat.blt dj n = true) (hv : ev n l (.tmp dj) = .bool b) (hb : Value.bool b = .bool b') (hne : (b' == want) = false) (h : R undef W) :
    if Region.wanted o (yielded ops (fr n ds l).tmps) = true then DrRun Try.prog x W R (fun _ _ => True) else R undef W ∧ True := by
  cases hb
  have hy := yielded_fr (ds := ds) hj hn hv
  have hw : Region.wanted o (yielded ops (fr n ds l).tmps) = false := by
    simp only [Region.wanted, hg, hy]
    cases b <;> cases want <;> simp at hne ⊢
  rw [if_neg (by rw [hw]; simp)]
  exact ⟨h, trivial⟩
theorem l1 {α : Type} {a b : α} (p : a = b) : [a] = [b] := by rw [p]
theorem l2 {α : Type} {a b a' b' : α} (p : a = b) (q : a' = b') : [a, a'] = [b, b'] := by rw [p, q]
theorem l3 {α : Type} {a b a' b' a2 b2 : α} (p : a = b) (q : a' = b') (q2 : a2 = b2) : [a, a', a2] = [b, b', b2] := by rw [p, q, q2]
theorem l4 {α : Type} {a b a' b' a2 b2 a3 b3 : α} (p : a = b) (q : a' = b') (q2 : a2 = b2) (q3 : a3 = b3) : [a, a', a2, a3] = [b, b', b2, b3] := by rw [p, q, q2, q3]
theorem l5 {α : Type} {a b a' b' a2 b2 a3 b3 a4 b4 : α} (p : a = b) (q : a' = b') (q2 : a2 = b2) (q3 : a3 = b3) (q4 : a4 = b4) : [a, a', a2, a3, a4] = [b, b', b2, b3, b4] := by rw [p, q, q2, q3, q4]
theorem m1 {i : Nat} {a b : Value} (p : a = b) : [(i, a)] = [(i, b)] := by rw [p]
theorem m2 {i i' : Nat} {a b a' b' : Value} (p : a = b) (q : a' = b') : [(i, a), (i', a')] = [(i, b), (i', b')] := by rw [p, q]
theorem m3 {i i' i2 : Nat} {a b a' b' a2 b2 : Value} (p : a = b) (q : a' = b') (q2 : a2 = b2) : [(i, a), (i', a'), (i2, a2)] = [(i, b), (i', b'), (i2, b2)] := by rw [p, q, q2]
theorem m4 {i i' i2 i3 : Nat} {a b a' b' a2 b2 a3 b3 : Value} (p : a = b) (q : a' = b') (q2 : a2 = b2) (q3 : a3 = b3) : [(i, a), (i', a'), (i2, a2), (i3, a3)] = [(i, b), (i', b'), (i2, b2), (i3, b3)] := by rw [p, q, q2, q3]
theorem m5 {i i' i2 i3 i4 : Nat} {a b a' b' a2 b2 a3 b3 a4 b4 : Value} (p : a = b) (q : a' = b') (q2 : a2 = b2) (q3 : a3 = b3) (q4 : a4 = b4) : [(i, a), (i', a'), (i2, a2), (i3, a3), (i4, a4)] = [(i, b), (i', b'), (i2, b2), (i3, b3), (i4, b4)] := by rw [p, q, q2, q3, q4]

/-! ### Maps -/
def MapObj (o : Obj) (m : List (Ky × Vl)) : Prop := ∃ es clock, o = .map es clock ∧ es.toList.map (fun e => (e.key, e.val)) = m.map kvOf ∧ (m.map Prod.fst).Nodup ∧ (∀ e ∈ es.toList, e.born < clock) ∧ (es.toList.map (·.born)).Nodup
theorem MapObj.at {b : Nat} {ob : Obj} {m : List (Ky × Vl)} (h : MapObj ob m) (hb : W.heap[b]? = some ob) : MapAt W b m := by
  obtain ⟨es, clock, rfl, r⟩ := h
  exact ⟨es, clock, hb, r⟩
theorem MapAt.obj {b : Nat} {m : List (Ky × Vl)} (h : MapAt W b m) : ∃ ob, W.heap[b]? = some ob ∧ MapObj ob m := by
  obtain ⟨es, clock, hb, r⟩ := h
  exact ⟨_, hb, es, clock, rfl, r⟩
theorem MapObj.new : MapObj (.map #[] 0) [] := ⟨#[], 0, rfl, rfl, by simp, by simp, by simp⟩
theorem MapObj.nodup {ob : Obj} {m : List (Ky × Vl)} (h : MapObj ob m) : (m.map Prod.fst).Nodup := by
  obtain ⟨_, _, _, _, h, _⟩ := h
  exact h
theorem WL.makeMap {k : Option Operand} (hS : St w0 own pins W) (hg : o.guard = none) (hd : o.dst = some d) (hn : Nat.blt d n = true) (ho : o.op = .makeMap T k) (hk : k = none)
    (hK : ∀ b W', St w0 ((b, .map #[] 0) :: own) pins W' → WL r ops Q rest (fr n ds ((d, .map (some b)) :: l)) W') : WL r ops Q (o :: rest) (fr n ds l) W := by
  subst hk
  refine WL.op hg hd hn (v := .map (some W.heap.size)) (W' := W.alloc (.map #[] 0)) ?_ (hK _ _ (hS.alloc _))
  simp [Ex, execOp, ho, Instr.makeMap, run_newObj_alloc]
theorem WL.makeMapN {k : Option Operand} {a : Int} {K E : TypeId} (hT : Try.prog.underlying T = some (.map K E)) (hS : St w0 own pins W) (hg : o.guard = none) (hd : o.dst = some d) (hn : Nat.blt d n = true) (ho : o.op = .makeMap T k) (hk : k.map (ev n l) = some (.int .i64 a))
    (hK : ∀ b W', St w0 ((b, .map #[] 0) :: own) pins W' → WL r ops Q rest (fr n ds ((d, .map (some b)) :: l)) W') : WL r ops Q (o :: rest) (fr n ds l) W := by
  refine WL.op hg hd hn (v := .map (some W.heap.size)) (W' := W.alloc (.map #[] 0)) ?_ (hK _ _ (hS.alloc _))
  simp [Ex, execOp, ho, hk, Instr.makeMap, run_newObj_alloc, run_underlying hT, asInt, asIntOf]
theorem Ex.lookupM {ρ : Operand → Value} {b : Nat} {ob : Obj} {m : List (Ky × Vl)} {k : Ky} (hb : W.heap[b]? = some ob) (hm : MapObj ob m) (ho : o.op = .lookup 82 x y true) (hx : ρ x = .map (some b)) (hy : ρ y = .agg k.enc) : Ex ρ o W (.tuple #[.agg ((look m k).getD Vl.zero).enc, .bool (look m k).isSome]) W := by
  simp [Ex, execOp, ho, hx, hy, (hm.at hb).lookup]
theorem WL.update {b : Nat} {ob : Obj} {m : List (Ky × Vl)} {k : Ky} {v : Vl} {z : Operand} (hS : St w0 own pins W) (i : Nat) (hi : own[i]? = some (b, ob)) (hm : MapObj ob m) (hg : o.guard = none) (hd : o.dst = none) (ho : o.op = .mapUpdate 82 x y z)
    (hx : ev n l x = .map (some b)) (hy : ev n l y = .agg k.enc) (hz : ev n l z = .agg v.enc)
    (hK : ∀ ob' W', MapObj ob' (putKv m k v) → St w0 (own.set i (b, ob')) pins W' → WL r ops Q rest (fr n ds l) W') : WL r ops Q (o :: rest) (fr n ds l) W := by
  have hb := hS.at i hi
  obtain ⟨o', hr, hM⟩ := (hm.at hb).update k v
  obtain ⟨ob', hb', hm'⟩ := hM.obj
  refine WL.do hg hd (W' := setBlock W b o') ?_ (hK ob' _ hm' ?_)
  · simp [Eu, execOp, ho, hx, hy, hz, hr]
  · refine hS.turn i hi rfl rfl rfl ?_ ?_ hb'
    · simp [setBlock]
    · intro k hk; simp [setBlock, Ne.symm hk]

/-- A slice that a literal makes. -/
theorem WL.buildSlice {k : Nat} {parts : Array (Nat × Operand)} {ps : List (Nat × Value)} {C : Array Value} {E : TypeId} (hp : parts.toList.map (fun p => (p.1, ev n l p.2)) = ps) (hr : ∀ W, (Instr.buildSlice T k ps.toArray).run Try.prog W = .ok (.slice (some ⟨W.heap.size, 0, none⟩) k k) (W.alloc (.cells C E)))
    (hS : St w0 own pins W) (hg : o.guard = none) (hd : o.dst = some d) (hn : Nat.blt d n = true) (ho : o.op = .buildSlice T k parts)
    (hK : ∀ b W', St w0 ((b, .cells C E) :: own) pins W' → WL r ops Q rest (fr n ds ((d, .slice (some ⟨b, 0, none⟩) k k) :: l)) W') : WL r ops Q (o :: rest) (fr n ds l) W := by
  have h1 : parts.map (fun p => (p.1, ev n l p.2)) = ps.toArray := by subst hp; apply Array.ext'; simp
  refine WL.op hg hd hn (v := .slice (some ⟨W.heap.size, 0, none⟩) k k) (W' := W.alloc (.cells C E)) ?_ (hK _ _ (hS.alloc _))
  simp [Ex, execOp, ho, h1, hr]
/-- .. and is read from then on. -/
theorem St.slice {α : Type} [Enc α] {b : Nat} {C : Array Value} {E : TypeId} {xs : List α} {cap : Nat} (h : St w0 ((b, .cells C E) :: own) pins W) (hC : xs.flatMap (fun a => (Enc.val a).cells.toList) = C.toList.take (xs.length * Enc.sz α)) (hl : xs.length < 4611686018427387904) : St w0 own (pinSl (.slice (some ⟨b, 0, none⟩) xs.length cap) xs :: pins) W := by
  have hb := h.at 0 rfl
  refine h.freeze _ (.inr ⟨b, 0, cap, rfl, hl, (Array.getElem?_eq_some_iff.1 hb).1, fun i a hi => ?_⟩) (fun k hk => vblk_eq hk)
  have hlen : ∀ a : α, ((Enc.val a).cells.toList).length = Enc.sz α := fun a => by rw [Array.length_toList]; exact Enc.hsz a
  have flat : ∀ (xs : List α) (i : Nat) (a : α), xs[i]? = some a → ((xs.flatMap (fun a => (Enc.val a).cells.toList)).drop (i * Enc.sz α)).take (Enc.sz α) = (Enc.val a).cells.toList := by
    intro xs
    induction xs with
    | nil => intro i a h; cases h
    | cons x xs ih =>
      intro i a h
      rw [List.flatMap_cons]
      cases i with
      | zero =>
        cases h
        rw [Nat.zero_mul, List.drop_zero]
        rw [← hlen x, List.take_left]
      | succ i =>
        have h' : xs[i]? = some a := by simpa using h
        have e : (i + 1) * Enc.sz α = ((Enc.val x).cells.toList).length + i * Enc.sz α := by rw [hlen, Nat.succ_mul, Nat.add_comm]
        rw [e, ← List.drop_drop, List.drop_left]
        exact ih i a h'
  have hi' := (List.getElem?_eq_some_iff.1 hi).1
  refine Reads.of_block hb _ _ ?_
  rw [hlen, Nat.zero_add]
  have h1 := flat xs i a hi
  rw [hC] at h1
  rw [List.drop_take, List.take_take] at h1
  have h2 : (i + 1) * Enc.sz α ≤ xs.length * Enc.sz α := Nat.mul_le_mul_right _ hi'
  rw [Nat.succ_mul] at h2
  rw [Nat.min_eq_left (by omega)] at h1
  exact h1
theorem St.drop (h : St w0 own pins W) (m k : Nat) : St w0 (own.drop m) (pins.drop k) W := h.sub (List.drop_sublist _ _) (fun p hp => List.mem_of_mem_drop hp)
end
end Go.Proofs.Ythidakffgcjjiaa
