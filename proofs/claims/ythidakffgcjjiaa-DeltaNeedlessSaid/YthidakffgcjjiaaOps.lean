/- What operations give: one law for each kind of operation, its operands' values as premises. -/
import Derived.Test.YthidakffgcjjiaaMem
import Derived.Laws.CopyRow
import Derived.Shelf.SlicesQ.Load
namespace Go.Proofs.Ythidakffgcjjiaa
open Go.RowKit Go.Sort

/-- Go values that stand for things of a kind, each as wide as the others. -/
class Enc (α : Type) where
  val : α → Value
  sz : Nat
  hsz : ∀ a, (val a).cells.size = sz
  one : ∀ a, ∀ u ∈ (val a).cells.toList, u.oneCell' = true

theorem one_of_all {xs : Array Value} (h : xs.all (·.oneCell') = true) : ∀ u ∈ xs.toList, u.oneCell' = true := by
  rw [← Array.all_toList] at h
  exact List.all_eq_true.1 h
theorem Nm.one' (a : Nm) : a.enc.all (·.oneCell') = true := by simp only [Nm.enc, List.all_toArray]; rfl
theorem Ky.one' (a : Ky) : a.enc.all (·.oneCell') = true := by simp only [Ky.enc, List.all_toArray]; rfl
theorem Vl.one' (a : Vl) : a.enc.all (·.oneCell') = true := by simp only [Vl.enc, List.all_toArray]; rfl
theorem At.one' (a : At) : a.enc.all (·.oneCell') = true := by simp only [At.enc, List.all_toArray]; rfl
instance : Enc Nm := ⟨fun a => .agg a.enc, 8, fun _ => rfl, fun a => one_of_all a.one'⟩
instance : Enc Ky := ⟨fun a => .agg a.enc, 12, fun _ => rfl, fun a => one_of_all a.one'⟩
instance : Enc Vl := ⟨fun a => .agg a.enc, 9, fun _ => rfl, fun a => one_of_all a.one'⟩
instance : Enc At := ⟨fun a => .agg a.enc, 21, fun _ => rfl, fun a => one_of_all a.one'⟩
instance : Enc Int := ⟨fun n => .int .i64 n, 1, fun _ => rfl, fun _ u hu => by simp [Value.cells] at hu; subst hu; rfl⟩
instance : Enc UInt64 := ⟨fun n => .int .u64 (n.toNat : Int), 1, fun _ => rfl, fun _ u hu => by simp [Value.cells] at hu; subst hu; rfl⟩
/-- Slices as elements. -/
structure Sv where
  p : Option Addr
  n : Nat
  c : Nat
def Sv.v (s : Sv) : Value := .slice s.p s.n s.c
instance : Enc Sv := ⟨Sv.v, 1, fun _ => rfl, fun _ u hu => by simp [Value.cells, Sv.v] at hu; subst hu; rfl⟩

/-! ### What is known of memory, for reading -/
/-- From off on, block b reads cs. -/
def Reads (W : World) (b off : Nat) (cs : List Value) : Prop := b < W.heap.size ∧ ∀ j u, cs[j]? = some u → W.cell? ⟨b, off + j, none⟩ = some u
theorem cell?_congr {W W' : World} {b o : Nat} (h : W'.heap[b]? = W.heap[b]?) : W'.cell? ⟨b, o, none⟩ = W.cell? ⟨b, o, none⟩ := by simp only [World.cell?, h]
theorem Reads.kept {W W' : World} {b off : Nat} {cs : List Value} (h : Reads W b off cs) (hk : W'.heap[b]? = W.heap[b]?) : Reads W' b off cs := by
  refine ⟨?_, fun j u hu => by rw [cell?_congr hk]; exact h.2 j u hu⟩
  have h1 := h.1
  have h2 : W.heap[b]? = some W.heap[b] := Array.getElem?_eq_getElem h1
  rw [h2] at hk
  exact (Array.getElem?_eq_some_iff.1 hk).1
theorem Reads.of_block {W : World} {b : Nat} {C : Array Value} {T : TypeId} {fz : Nat × Nat} (h : W.heap[b]? = some (.cells C T fz)) (off : Nat) (cs : List Value) (hs : (C.toList.drop off).take cs.length = cs) : Reads W b off cs := by
  refine ⟨(Array.getElem?_eq_some_iff.1 h).1, fun j u hu => ?_⟩
  have hj : j < cs.length := (List.getElem?_eq_some_iff.1 hu).1
  have : W.cell? ⟨b, off + j, none⟩ = C[off + j]? := by simp [World.cell?, h]
  rw [this, ← Array.getElem?_toList]
  rw [← hs, List.getElem?_take, if_pos hj, List.getElem?_drop] at hu
  exact hu
theorem Reads.sub {W : World} {b off : Nat} {cs ds : List Value} (h : Reads W b off cs) (k : Nat) (hs : (cs.drop k).take ds.length = ds) : Reads W b (off + k) ds := by
  refine ⟨h.1, fun j u hu => ?_⟩
  have hj : j < ds.length := (List.getElem?_eq_some_iff.1 hu).1
  rw [← hs, List.getElem?_take, if_pos hj, List.getElem?_drop] at hu
  rw [Nat.add_assoc]
  exact h.2 _ _ hu
def pinReads (b off : Nat) (cs : List Value) : Pin := ⟨(· = b), fun W => Reads W b off cs, fun _ _ h hr => hr.kept (h b rfl), fun _ h _ hb => hb ▸ h.1⟩

/-- A slice that reads as the things l. -/
def Sl {α : Type} [Enc α] (W : World) (v : Value) (l : List α) : Prop :=
  (∃ p c, v = .slice p 0 c ∧ l = []) ∨ ∃ b off cap, v = .slice (some ⟨b, off, none⟩) l.length cap ∧ l.length < 4611686018427387904 ∧ b < W.heap.size ∧
    ∀ i a, l[i]? = some a → Reads W b (off + i * Enc.sz α) (Enc.val a).cells.toList
/-- The block in which a slice lies; one of no length lies nowhere. -/
def vblkN (b : Nat) : Nat → Option Nat
  | 0 => none
  | _ + 1 => some b
def vblk : Value → Option Nat
  | .slice (some a) n _ => vblkN a.block n
  | _ => none
theorem vblk_eq {a : Addr} {n c b : Nat} (h : vblk (.slice (some a) n c) = some b) : b = a.block := by
  replace h : vblkN a.block n = some b := h
  cases n with
  | zero => cases h
  | succ n => exact (Option.some.inj h).symm
theorem vblk_pos {a : Addr} {n c : Nat} (h : 0 < n) : vblk (.slice (some a) n c) = some a.block := by
  show vblkN a.block n = some a.block
  cases n with
  | zero => omega
  | succ n => rfl
theorem vblk_zero {p : Option Addr} {c b : Nat} (h : vblk (.slice p 0 c) = some b) : False := by
  cases p with
  | none => have h' : (none : Option Nat) = some b := h; cases h'
  | some a => have h' : (none : Option Nat) = some b := h; cases h'
theorem Sl.nil {α : Type} [Enc α] {W : World} : Sl W (.slice none 0 0) ([] : List α) := .inl ⟨_, _, rfl, rfl⟩
theorem Sl.kept {α : Type} [Enc α] {W W' : World} {v : Value} {l : List α} (h : Sl W v l) (hk : ∀ b, vblk v = some b → W'.heap[b]? = W.heap[b]?) : Sl W' v l := by
  rcases h with h | ⟨b, off, cap, rfl, hl, hb, hr⟩
  · exact .inl h
  · by_cases h0 : l.length = 0
    · have hl0 : l = [] := List.eq_nil_of_length_eq_zero h0
      subst hl0
      exact .inl ⟨_, _, rfl, rfl⟩
    · have hkb := hk b (vblk_pos (by omega))
      refine .inr ⟨b, off, cap, rfl, hl, ?_, fun i a hi => (hr i a hi).kept hkb⟩
      have h2 : W.heap[b]? = some W.heap[b] := Array.getElem?_eq_getElem hb
      rw [h2] at hkb
      exact (Array.getElem?_eq_some_iff.1 hkb).1
theorem Sl.blt {α : Type} [Enc α] {W : World} {v : Value} {l : List α} (h : Sl W v l) : ∀ b, vblk v = some b → b < W.heap.size := by
  rcases h with ⟨p, c, rfl, _⟩ | ⟨b, off, cap, rfl, _, hb, _⟩
  · intro b hb; exact (vblk_zero hb).elim
  · intro b' hb'; rw [vblk_eq hb']; exact hb
def pinSl {α : Type} [Enc α] (v : Value) (l : List α) : Pin := ⟨fun b => vblk v = some b, fun W => Sl W v l, fun _ _ h hs => hs.kept h, fun _ h => h.blt⟩
theorem Sl.len {α : Type} [Enc α] {W : World} {v : Value} {l : List α} (h : Sl W v l) : ∃ p cap, v = .slice p l.length cap := by
  rcases h with ⟨p, c, h, rfl⟩ | ⟨b, off, cap, h1, _⟩
  · exact ⟨_, _, h⟩
  · exact ⟨_, _, h1⟩
theorem Sl.lt {α : Type} [Enc α] {W : World} {v : Value} {l : List α} (h : Sl W v l) : l.length < 4611686018427387904 := by
  rcases h with ⟨_, _, _, rfl⟩ | ⟨b, off, cap, _, h1, _⟩
  · simp
  · exact h1
theorem Sl.bw {α : Type} [Enc α] {W W' : World} {v : Value} {l : List α} (h : Sl W v l) (hB : Bw W W') : Sl W' v l := h.kept fun b hb => hB.heap (h.blt b hb)

section
variable {ρ : Operand → Value} {o : Oper} {W W' : World} {x y z : Operand} {u v : Value} {T U : TypeId}

theorem Ex.move (ho : o.op = .move x) (hx : ρ x = v) : Ex ρ o W v W := by simp [Ex, execOp, ho, hx]
theorem Ex.assign (ho : o.op = .assign x) (hx : ρ x = v) : Ex ρ o W v W := by simp [Ex, execOp, ho, hx]
theorem Ex.pickT (ho : o.op = .pick x y z) (hx : ρ x = .bool true) (hy : ρ y = v) : Ex ρ o W v W := by simp [Ex, execOp, ho, hx, hy, asBool]
theorem Ex.pickF (ho : o.op = .pick x y z) (hx : ρ x = .bool false) (hz : ρ z = v) : Ex ρ o W v W := by simp [Ex, execOp, ho, hx, hz, asBool]
theorem Ex.field {i : Nat} (ho : o.op = .field T x i) (hx : ρ x = u) (h : (Instr.field T u i).run Try.prog W = .ok v W) : Ex ρ o W v W := by simp [Ex, execOp, ho, hx, h]
theorem Ex.index {y : Operand} {k : Value} (ho : o.op = .index T x y) (hx : ρ x = u) (hy : ρ y = k) (h : (Instr.index T u k).run Try.prog W = .ok v W) : Ex ρ o W v W := by simp [Ex, execOp, ho, hx, hy, h]
theorem Ex.extract {i : Nat} {vs : Array Value} (ho : o.op = .extract x i) (hx : ρ x = .tuple vs) (h : vs[i]? = some v) : Ex ρ o W v W := by simp [Ex, execOp, ho, hx, Instr.extract, h]
theorem Ex.build {parts : Array (Nat × Operand)} {ps : List (Nat × Value)} (ho : o.op = .build T parts) (hp : parts.toList.map (fun p => (p.1, ρ p.2)) = ps) (h : (Instr.build T ps.toArray).run Try.prog W = .ok v W) : Ex ρ o W v W := by
  have : parts.map (fun p => (p.1, ρ p.2)) = ps.toArray := by subst hp; apply Array.ext' ; simp
  simp [Ex, execOp, ho, this, h]
theorem Ex.binop {op : BinOp} {a b : Value} (ho : o.op = .binOp op T x y U) (hx : ρ x = a) (hy : ρ y = b) (h : (do eqGuard op T x y a b; binOp op T a b : Sem Value).run Try.prog W = .ok v W) : Ex ρ o W v W := by
  unfold Ex execOp
  simp only [ho, hx, hy]
  rw [Sem.run_bind, h]
  rfl
theorem Ex.unop {op : UnOp} {a : Value} (ho : o.op = .unOp op T x) (hx : ρ x = a) (h : (Op.unary op a).run Try.prog W = .ok v W) : Ex ρ o W v W := by simp [Ex, execOp, ho, hx, h]
theorem Ex.not {b : Bool} (ho : o.op = .unOp .not T x) (hx : ρ x = .bool b) : Ex ρ o W (.bool (!b)) W := by simp [Ex, execOp, ho, hx, Op.unary]
theorem Ex.convert {a : Value} (ho : o.op = .convert T U x) (hx : ρ x = a) (h : (convert T U a).run Try.prog W = .ok v W) : Ex ρ o W v W := by simp [Ex, execOp, ho, hx, h]
theorem Ex.makeFunc {f : Fn} {fs cs : Array Operand} {f' c' : List Value} (ho : o.op = .makeFunc f fs cs) (hf : fs.toList.map ρ = f') (hc : cs.toList.map ρ = c') : Ex ρ o W (.func f f'.toArray c'.toArray) W := by
  have h1 : fs.map ρ = f'.toArray := by subst hf; apply Array.ext'; simp
  have h2 : cs.map ρ = c'.toArray := by subst hc; apply Array.ext'; simp
  simp [Ex, execOp, ho, h1, h2, Instr.makeFunc]
theorem Ex.nilCheck {a : Addr} (ho : o.op = .nilCheck x) (hx : ρ x = .pointer (some a)) : Ex ρ o W (.pointer (some a)) W := by simp [Ex, execOp, ho, hx]
theorem Ex.fieldAddr {i : Nat} (ho : o.op = .fieldAddr T x i) (hx : ρ x = u) (h : (Instr.fieldAt T u i).run Try.prog W = .ok v W) : Ex ρ o W v W := by simp [Ex, execOp, ho, hx, h]
/-- A field of a struct has cells of its own, k cells on. -/
def FieldAt (T : TypeId) (i k : Nat) : Prop := ∀ b off W, (Instr.fieldAt T (.pointer (some ⟨b, off, none⟩)) i).run Try.prog W = .ok (.pointer (some ⟨b, off + k, none⟩)) W
theorem Ex.fieldAddr' {i k b off : Nat} (hT : FieldAt T i k) (ho : o.op = .fieldAddr T x i) (hx : ρ x = .pointer (some ⟨b, off, none⟩)) : Ex ρ o W (.pointer (some ⟨b, off + k, none⟩)) W := Ex.fieldAddr ho hx (hT b off W)

/-! Types -/
structure TyAgg (T : TypeId) (n : Nat) : Prop where
  agg : ∀ W, (isAgg T).run Try.prog W = .ok true W
  sz : ∀ W, (Go.sizeOf T).run Try.prog W = .ok n W
structure TyOne (T : TypeId) : Prop where
  agg : ∀ W, (isAgg T).run Try.prog W = .ok false W
  sz : ∀ W, (Go.sizeOf T).run Try.prog W = .ok 1 W
theorem loadVar_agg {n b off : Nat} {cs : List Value} (hT : TyAgg T n) (hr : Reads W b off cs) (hn : cs.length = n) : (loadVar T ⟨b, off, none⟩).run Try.prog W = .ok (.agg cs.toArray) W := by
  have := run_loadCellsFrom_list Try.prog W ⟨b, off, none⟩ cs n hn (fun j u hu => by rw [Addr.add_lit]; exact hr.2 j u hu)
  simp [loadVar, hT.agg, hT.sz, loadCells, this]
theorem loadVar_one {b off : Nat} {u : Value} (hT : TyOne T) (hr : Reads W b off [u]) : (loadVar T ⟨b, off, none⟩).run Try.prog W = .ok u W := by
  have := hr.2 0 u rfl
  simp only [Nat.add_zero] at this
  simp [loadVar, hT.agg, Go.load, Sem.run, this]
theorem Ex.loadA {n b off : Nat} {cs : List Value} (hT : TyAgg T n) (ho : o.op = .load T x) (hx : ρ x = .pointer (some ⟨b, off, none⟩)) (hr : Reads W b off cs) (hn : cs.length = n) : Ex ρ o W (.agg cs.toArray) W := by
  simp [Ex, execOp, ho, hx, Instr.loadAt, Instr.sureAddr, loadVar_agg hT hr hn]
theorem Ex.load1 {b off : Nat} (hT : TyOne T) (ho : o.op = .load T x) (hx : ρ x = .pointer (some ⟨b, off, none⟩)) (hr : Reads W b off [u]) : Ex ρ o W u W := by
  simp [Ex, execOp, ho, hx, Instr.loadAt, Instr.sureAddr, loadVar_one hT hr]

/-! Integers -/
theorem Ex.lt {k : IntKind} {a b : Int} (ho : o.op = .binOp .lss T x y U) (hx : ρ x = .int k a) (hy : ρ y = .int k b) : Ex ρ o W (.bool (decide (a < b))) W := Ex.binop ho hx hy (by simp [eqGuard, binOp, Op.intCmp])
theorem Ex.le {k : IntKind} {a b : Int} (ho : o.op = .binOp .leq T x y U) (hx : ρ x = .int k a) (hy : ρ y = .int k b) : Ex ρ o W (.bool (decide (a ≤ b))) W := Ex.binop ho hx hy (by simp [eqGuard, binOp, Op.intCmp])
theorem Ex.gt {k : IntKind} {a b : Int} (ho : o.op = .binOp .gtr T x y U) (hx : ρ x = .int k a) (hy : ρ y = .int k b) : Ex ρ o W (.bool (decide (b < a))) W := Ex.binop ho hx hy (by simp [eqGuard, binOp, Op.intCmp])
theorem Ex.ge {k : IntKind} {a b : Int} (ho : o.op = .binOp .geq T x y U) (hx : ρ x = .int k a) (hy : ρ y = .int k b) : Ex ρ o W (.bool (decide (b ≤ a))) W := Ex.binop ho hx hy (by simp [eqGuard, binOp, Op.intCmp])
theorem Ex.eq {k : IntKind} {a b : Int} (ho : o.op = .binOp .eql T x y U) (hx : ρ x = .int k a) (hy : ρ y = .int k b) : Ex ρ o W (.bool (decide (a = b))) W := Ex.binop ho hx hy (by simp [eqGuard, binOp, Op.intCmp, bne]; rfl)
theorem Ex.ne {k : IntKind} {a b : Int} (ho : o.op = .binOp .neq T x y U) (hx : ρ x = .int k a) (hy : ρ y = .int k b) : Ex ρ o W (.bool (!decide (a = b))) W := Ex.binop ho hx hy (by simp [eqGuard, binOp, Op.intCmp, bne]; rfl)
theorem Ex.add {k : IntKind} {a b c : Int} (ho : o.op = .binOp .add T x y U) (hx : ρ x = .int k a) (hy : ρ y = .int k b) (hc : k.wrap (a + b) = c) : Ex ρ o W (.int k c) W := Ex.binop ho hx hy (by simp [eqGuard, binOp, Op.intArith, hc])
theorem Ex.sub {k : IntKind} {a b c : Int} (ho : o.op = .binOp .sub T x y U) (hx : ρ x = .int k a) (hy : ρ y = .int k b) (hc : k.wrap (a - b) = c) : Ex ρ o W (.int k c) W := Ex.binop ho hx hy (by simp [eqGuard, binOp, Op.intArith, hc])
theorem wrap_i64 {a : Int} (h1 : -9223372036854775808 ≤ a) (h2 : a ≤ 9223372036854775807) : IntKind.i64.wrap a = a := IntWalk.i64_in _ ⟨h1, h2⟩
theorem wrap_succ {k : Nat} (h : k < 9223372036854775807) : IntKind.i64.wrap ((k : Int) + 1) = ((k + 1 : Nat) : Int) := by
  rw [wrap_i64 (by omega) (by omega)]; omega

/-! Slices -/
theorem Ex.lenSl {α : Type} [Enc α] {l : List α} {S : TypeId} (hS : ∃ e, Try.prog.underlying S = some (.slice e)) (ho : o.op = .call { callee := .builtin .len, args := #[x], argTypes := #[S] }) (hx : ρ x = v) (hs : Sl W v l) : Ex ρ o W (.int .i64 (l.length : Int)) W := by
  obtain ⟨p, cap, rfl⟩ := hs.len
  obtain ⟨e, he⟩ := hS
  simp [Ex, execOp, ho, resolve, invoke, builtin, hx, Builtin.len_, run_underlying he, goInt]
theorem run_indexAt_sl {b off n cap k : Nat} {S E : TypeId} {sz : Nat} (hS : Try.prog.underlying S = some (.slice E)) (hE : ∀ W, (Go.sizeOf E).run Try.prog W = .ok sz W) (hk : k < n) :
    (Instr.indexAt S (.slice (some ⟨b, off, none⟩) n cap) (.int .i64 (k : Int))).run Try.prog W = .ok (.pointer (some ⟨b, off + k * sz, none⟩)) W := by
  simp [Instr.indexAt, asIntOf, run_underlying hS, hk, hE, Addr.add_lit]
end

section
variable {r : Option Nat} {ops : Array Oper} {Q : Post} {rest : List Oper} {o : Oper} {n : Nat} {ds : List Deferred} {l : Fr} {W W' w0 : World} {own : List (Nat × Obj)} {pins : List Pin} {d : Nat} {x y : Operand} {T : TypeId}

/-- An element of a slice that is pinned: its cells are pinned too. -/
theorem WL.indexSl {α : Type} [Enc α] {S E : TypeId} {v : Value} {xs : List α} {k : Nat} (hSl : Try.prog.underlying S = some (.slice E)) (hE : ∀ W, (Go.sizeOf E).run Try.prog W = .ok (Enc.sz α) W) (hS : St w0 own pins W) (hp : pinSl v xs ∈ pins) (hk : k < xs.length)
    (hg : o.guard = none) (hd : o.dst = some d) (hn : Nat.blt d n = true) (ho : o.op = .indexAddr S x y) (hx : ev n l x = v) (hy : ev n l y = .int .i64 (k : Int))
    (hK : ∀ b p a, xs[k]? = some a → St w0 own (pinReads b p (Enc.val a).cells.toList :: pins) W → WL r ops Q rest (fr n ds ((d, .pointer (some ⟨b, p, none⟩)) :: l)) W) : WL r ops Q (o :: rest) (fr n ds l) W := by
  have hs : Sl W v xs := hS.mem hp
  have hfoot := (hS.pin _ hp).2
  rcases hs with ⟨_, _, _, rfl⟩ | ⟨b, off, cap, rfl, hl, hb, hr⟩
  · exact absurd hk (by simp)
  · have hi := run_indexAt_sl (W := W) (b := b) (off := off) (cap := cap) hSl hE hk
    refine WL.op hg hd hn (v := .pointer (some ⟨b, off + k * Enc.sz α, none⟩)) (W' := W) ?_ (hK b _ xs[k] (by simp) ?_)
    · simp [Ex, execOp, ho, hx, hy, hi]
    · exact hS.addPin _ (hr k _ (by simp)) (fun k' hk' => by cases hk'; exact hfoot b (vblk_pos (by omega)))

/-- A new variable. -/
theorem WL.alloc {z : Value} (hz : ∀ W, (zeroValue T).run Try.prog W = .ok z W) (hS : St w0 own pins W) (hg : o.guard = none) (hd : o.dst = some d) (hn : Nat.blt d n = true) (ho : o.op = .alloc T)
    (hK : ∀ b W', St w0 ((b, .cells z.cells T) :: own) pins W' → WL r ops Q rest (fr n ds ((d, .pointer (some ⟨b, 0, none⟩)) :: l)) W') : WL r ops Q (o :: rest) (fr n ds l) W := by
  refine WL.op hg hd hn (v := .pointer (some ⟨W.heap.size, 0, none⟩)) (W' := W.alloc (.cells z.cells T)) ?_ (hK _ _ (hS.alloc _))
  simp [Ex, execOp, ho, Instr.alloc, hz, newVar, newRow, run_newObj_alloc]
theorem WL.box {v : Value} (hS : St w0 own pins W) (hg : o.guard = none) (hd : o.dst = some d) (hn : Nat.blt d n = true) (ho : o.op = .box T x) (hx : ev n l x = v)
    (hK : ∀ b W', St w0 ((b, .cells v.cells T) :: own) pins W' → WL r ops Q rest (fr n ds ((d, .pointer (some ⟨b, 0, none⟩)) :: l)) W') : WL r ops Q (o :: rest) (fr n ds l) W := by
  refine WL.op hg hd hn (v := .pointer (some ⟨W.heap.size, 0, none⟩)) (W' := W.alloc (.cells v.cells T)) ?_ (hK _ _ (hS.alloc _))
  simp [Ex, execOp, ho, hx, Instr.box, newVar, newRow, run_newObj_alloc]
/-- A store into a block of own. -/
theorem WL.store {m off b : Nat} {E : TypeId} {C C' : Array Value} {v : Value} (hT : ∀ W, (Go.sizeOf T).run Try.prog W = .ok m W) (hS : St w0 own pins W) (i : Nat) (hi : own[i]? = some (b, .cells C E (0, 0))) (hg : o.guard = none) (hd : o.dst = none) (ho : o.op = .store T x y)
    (hx : ev n l x = .pointer (some ⟨b, off, none⟩)) (hy : ev n l y = v) (hm : v.cells.size = m) (h1 : v.cells.toList.all (·.oneCell') = true) (hle : Nat.ble (off + m) C.size = true)
    (hC : (C.toList.take off ++ v.cells.toList ++ C.toList.drop (off + m)).toArray = C') (own' : List (Nat × Obj)) (hown : own.set i (b, .cells C' E (0, 0)) = own')
    (hK : ∀ W', St w0 own' pins W' → WL r ops Q rest (fr n ds l) W') : WL r ops Q (o :: rest) (fr n ds l) W := by
  have hb := hS.at i hi
  have hle' : off + m ≤ C.size := Nat.le_of_ble_eq_true hle
  have hst := run_storeCells_at Try.prog b off E v.cells.toList 0 C W hb (by simp [hm]; exact hle') (fun u hu => List.all_eq_true.1 h1 u hu)
  simp only [Nat.add_zero, Array.length_toList, hm, hC] at hst
  refine WL.do hg hd (W' := W.setRow b C') ?_ (hK _ ?_)
  · simp [Eu, execOp, ho, hx, hy, Instr.storeAt, Instr.sureAddr, storeVar, hT, hm, hst]
  · subst hown
    refine hS.turn i hi rfl rfl rfl ?_ ?_ ?_
    · simp [World.setRow]
    · intro k hk
      simp [World.setRow, Array.getElem?_modify, Ne.symm hk]
    · exact setRow_heap W b C C' E _ hb
end
end Go.Proofs.Ythidakffgcjjiaa
