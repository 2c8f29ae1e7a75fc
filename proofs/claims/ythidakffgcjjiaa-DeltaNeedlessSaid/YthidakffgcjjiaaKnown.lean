/- Steps of a walk: looking up and storing in a map of keys. -/
import Derived.Test.YthidakffgcjjiaaState
namespace Go.Proofs.Ythidakffgcjjiaa
open Go.RowKit Go.Sort Go.Lib Go.Shelf
open Go.ChangeMaps (setBlock)
section
variable {ops : Array Oper} {rest : List Oper} {o : Oper} {a : Act} {w : World} {Q : Exit → Act → World → Prop}
theorem wpList_lookup82 {b : Nat} {l : List (Ky × Vl)} {x y : Operand} {k : Ky} (hg : o.guard = none) (ho : o.op = Op.lookup 82 x y true) (hx : a.eval x = .map (some b)) (hy : a.eval y = .agg k.enc) (hM : MapAt w b l)
    (hK : wpList Try.prog ops Q rest (a.put o.dst (.tuple #[.agg ((look l k).getD Vl.zero).enc, .bool (look l k).isSome])) w) : wpList Try.prog ops Q (o :: rest) a w := by
  refine wpList_plain hg fun K' hK' => ?_
  have : (execOp a.eval o).run Try.prog w = .ok (.value (.tuple #[.agg ((look l k).getD Vl.zero).enc, .bool (look l k).isSome])) w := by
    simp only [execOp, ho, hx, hy, Sem.run_bind, hM.lookup, Result.andThen_ok, Sem.run_pure]
  unfold Oper.wp
  rw [this]
  exact hK' _ _ hK
theorem wpList_update82 {b : Nat} {l : List (Ky × Vl)} {x y z : Operand} {k : Ky} {v : Vl} (hg : o.guard = none) (ho : o.op = Op.mapUpdate 82 x y z) (hd : o.dst = none) (hx : a.eval x = .map (some b)) (hy : a.eval y = .agg k.enc) (hz : a.eval z = .agg v.enc) (hM : MapAt w b l)
    (hK : ∀ ob, MapAt (setBlock w b ob) b (putKv l k v) → wpList Try.prog ops Q rest a (setBlock w b ob)) : wpList Try.prog ops Q (o :: rest) a w := by
  refine wpList_plain hg fun K' hK' => ?_
  obtain ⟨ob, hr, hM'⟩ := hM.update k v
  unfold Oper.wp
  simp only [execOp, ho, hx, hy, hz, Sem.run_bind, hr, Result.andThen_ok, Sem.run_pure]
  exact hK' _ _ (by rw [hd]; exact hK ob hM')
end

/-! ### What is known of a row -/
/-- One atom more. -/
def upd (m : List (Ky × Vl)) (a : At) : List (Ky × Vl) := if a.right then putKv m a.k (match look m a.k with | some was => was.more a.v | none => a.v) else m
def known (l : List At) : List (Ky × Vl) := l.foldl upd []
/-- The state that a row stands for. -/
def normAt (l : List At) : List At := sortAt ((known l).map atOf)
theorem known_snoc (l : List At) (a : At) : known (l ++ [a]) = upd (known l) a := by simp [known]
theorem putKv_length (m : List (Ky × Vl)) (k : Ky) (v : Vl) : (putKv m k v).length ≤ m.length + 1 := by
  unfold putKv; split <;> simp
theorem known_length (l : List At) : (known l).length ≤ l.length := by
  have h : ∀ (l : List At) (m : List (Ky × Vl)), (l.foldl upd m).length ≤ m.length + l.length := by
    intro l
    induction l with
    | nil => intro m; simp
    | cons a l ih =>
      intro m
      have h1 := ih (upd m a)
      have h2 : (upd m a).length ≤ m.length + 1 := by
        unfold upd; split
        · exact putKv_length _ _ _
        · omega
      simp only [List.foldl_cons, List.length_cons]
      omega
  simpa [known] using h l []
end Go.Proofs.Ythidakffgcjjiaa
