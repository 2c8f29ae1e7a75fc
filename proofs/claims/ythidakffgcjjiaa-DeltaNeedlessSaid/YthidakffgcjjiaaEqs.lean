/- '==' and '!=' of the model at names, keys, values, atoms and triples of words: they say whether the plain things are the same. -/
import Derived.Test.YthidakffgcjjiaaBase
import Derived.DeepKeys
import Derived.Laws.StructEq
namespace Go.Proofs.Ythidakffgcjjiaa
open Go.RowKit Go.Sort Go.Shelf
theorem Try.cells31 : Try.prog.cellsOf 31 = 8 := by kernel_rfl
theorem Try.cells61 : Try.prog.cellsOf 61 = 12 := by kernel_rfl
theorem Try.cells67 : Try.prog.cellsOf 67 = 9 := by kernel_rfl
theorem Try.cells71 : Try.prog.cellsOf 71 = 21 := by kernel_rfl
theorem Try.cells118 : Try.prog.cellsOf 118 = 3 := by kernel_rfl
theorem Try.cells5 : Try.prog.cellsOf 5 = 1 := by kernel_rfl
theorem Try.cells29 : Try.prog.cellsOf 29 = 1 := by kernel_rfl
theorem Try.cells34 : Try.prog.cellsOf 34 = 1 := by kernel_rfl
theorem Try.cells65 : Try.prog.cellsOf 65 = 1 := by kernel_rfl
theorem wfU8 (c : UInt8) : (Lit.int .u8 (c.toNat : Int)).wf = true := WalkArith.wf_u8 (by have := c.toNat_lt; omega)
theorem wfU16 (c : UInt16) : (Lit.int .u16 (c.toNat : Int)).wf = true := WalkArith.wf_u16 (by have := c.toNat_lt; omega)
theorem wfU32 (c : UInt32) : (Lit.int .u32 (c.toNat : Int)).wf = true := WalkArith.wf_u32 (by have := c.toNat_lt; omega)
theorem wfU64 (c : UInt64) : (Lit.int .u64 (c.toNat : Int)).wf = true := WalkArith.wf_u64 (by have := c.toNat_lt; omega)

def L8 (b : UInt8) : Lit := .int .u8 (b.toNat : Int)
def L16 (b : UInt16) : Lit := .int .u16 (b.toNat : Int)
def L32 (b : UInt32) : Lit := .int .u32 (b.toNat : Int)
def L64 (b : UInt64) : Lit := .int .u64 (b.toNat : Int)
theorem L8_inj (a b : UInt8) : L8 a = L8 b ↔ a = b := by
  simp only [L8, Lit.int.injEq, true_and]; rw [← UInt8.toNat_inj]; omega
theorem L16_inj (a b : UInt16) : L16 a = L16 b ↔ a = b := by
  simp only [L16, Lit.int.injEq, true_and]; rw [← UInt16.toNat_inj]; omega
theorem L32_inj (a b : UInt32) : L32 a = L32 b ↔ a = b := by
  simp only [L32, Lit.int.injEq, true_and]; rw [← UInt32.toNat_inj]; omega
theorem L64_inj (a b : UInt64) : L64 a = L64 b ↔ a = b := by
  simp only [L64, Lit.int.injEq, true_and]; rw [← UInt64.toNat_inj]; omega
def Nm.lits (n : Nm) : List Lit := [L8 n.b0, L8 n.b1, L8 n.b2, L8 n.b3, L8 n.b4, L8 n.b5, L8 n.b6, L8 n.b7]
def Ky.lits (k : Ky) : List Lit := [L8 k.sort, L16 k.cart, L8 k.item.b0, L8 k.item.b1, L8 k.item.b2, L8 k.item.b3, L8 k.item.b4, L8 k.item.b5, L8 k.item.b6, L8 k.item.b7, L8 k.rep, L32 k.seq]
def Vl.lits (v : Vl) : List Lit := [L64 v.n, L8 v.text.b0, L8 v.text.b1, L8 v.text.b2, L8 v.text.b3, L8 v.text.b4, L8 v.text.b5, L8 v.text.b6, L8 v.text.b7]
theorem Nm.lits_inj (a b : Nm) : a.lits = b.lits ↔ a = b := by
  obtain ⟨a0, a1, a2, a3, a4, a5, a6, a7⟩ := a
  obtain ⟨b0, b1, b2, b3, b4, b5, b6, b7⟩ := b
  simp [Nm.lits, L8_inj]
theorem Ky.lits_inj (a b : Ky) : a.lits = b.lits ↔ a = b := by
  obtain ⟨s, c, ⟨a0, a1, a2, a3, a4, a5, a6, a7⟩, r, q⟩ := a
  obtain ⟨s', c', ⟨b0, b1, b2, b3, b4, b5, b6, b7⟩, r', q'⟩ := b
  simp [Ky.lits, L8_inj, L16_inj, L32_inj, and_assoc]
theorem Vl.lits_inj (a b : Vl) : a.lits = b.lits ↔ a = b := by
  obtain ⟨s, ⟨a0, a1, a2, a3, a4, a5, a6, a7⟩⟩ := a
  obtain ⟨s', ⟨b0, b1, b2, b3, b4, b5, b6, b7⟩⟩ := b
  simp [Vl.lits, L8_inj, L64_inj]
theorem At.lits_inj (a b : At) : a.k.lits ++ a.v.lits = b.k.lits ++ b.v.lits ↔ a = b := by
  obtain ⟨k, v⟩ := a
  obtain ⟨k', v'⟩ := b
  have h1 := Ky.lits_inj k k'
  have h2 := Vl.lits_inj v v'
  simp only [At.mk.injEq, ← h1, ← h2]
  exact ⟨fun h => List.append_inj h (by simp [Ky.lits]), fun h => by rw [h.1, h.2]⟩
theorem lits31 (d : Nat) (a : Nm) : Try.prog.keyLits (d + 2) 31 a.enc.toList = some a.lits := by
  simp [Nm.lits, L8, Program.keyLits, Try.underlying31, Try.cells31, Try.cells5, Try.underlying5, wfU8, List.range_succ]
theorem lits61 (d : Nat) (a : Ky) : Try.prog.keyLits (d + 3) 61 a.enc.toList = some a.lits := by
  simp [Ky.lits, L8, L16, L32, Program.keyLits, Try.underlying31, Try.cells31, Try.cells5, Try.underlying5, wfU8, List.range_succ, Try.underlying61, Try.cells61, Try.cells29, Try.cells34, Try.underlying29, Try.underlying34, wfU16, wfU32]
theorem lits67 (d : Nat) (a : Vl) : Try.prog.keyLits (d + 3) 67 a.enc.toList = some a.lits := by
  simp [Vl.lits, L8, L64, Program.keyLits, Try.underlying31, Try.cells31, Try.cells5, Try.underlying5, wfU8, List.range_succ, Try.underlying67, Try.cells67, Try.cells65, Try.underlying65, wfU64]
theorem lits71 (d : Nat) (a : At) : Try.prog.keyLits (d + 4) 71 a.enc.toList = some (a.k.lits ++ a.v.lits) := by
  have h1 := lits61 d a.k
  have h2 := lits67 d a.v
  rw [Ky.enc_list] at h1
  rw [Vl.enc_list] at h2
  unfold Program.keyLits
  simp [Try.underlying71, Try.cells71, Try.cells61, Try.cells67, h1, h2]

theorem eq_deep {T : TypeId} (hk : Try.prog.keyTypeAt 6 T = true) {xs ys : Array Value} {lx ly : List Lit} {D : Nat} (fx : (Value.agg xs).formed Try.prog T = true) (fy : (Value.agg ys).formed Try.prog T = true)
    (hx : Try.prog.keyLits D T xs.toList = some lx) (hy : Try.prog.keyLits D T ys.toList = some ly) (w : World) :
    ∃ r : Bool, (Op.equalIn 10000 T (.agg xs) (.agg ys)).run Try.prog w = .ok r w ∧ (r = true ↔ lx = ly) := by
  rw [show (10000 : Nat) = 9994 + 6 from rfl]
  exact run_equalIn_deep (P := Try.prog) 9994 6 T hk w D D _ _ lx ly fx fy hx hy

theorem eq_of {T : TypeId} {xs ys : Array Value} {b : Prop} [Decidable b] {lx ly : List Lit} (hl : lx = ly ↔ b) (w : World)
    (h : ∃ r : Bool, (Op.equalIn 10000 T (.agg xs) (.agg ys)).run Try.prog w = .ok r w ∧ (r = true ↔ lx = ly)) :
    (Op.equalIn 10000 T (.agg xs) (.agg ys)).run Try.prog w = .ok (decide b) w := by
  obtain ⟨r, hr, hi⟩ := h
  have hrb : r = decide b := by
    rw [hl] at hi
    by_cases hb : b
    · rw [hi.2 hb]; simp [hb]
    · cases r
      · simp [hb]
      · exact absurd (hi.1 rfl) hb
  rw [hr, hrb]

theorem eq31 (a b : Nm) (w : World) : (Op.equalIn 10000 31 (.agg a.enc) (.agg b.enc)).run Try.prog w = .ok (decide (a = b)) w :=
  eq_of (Nm.lits_inj a b) w (eq_deep (D := 2) (by kernel_rfl) (by kernel_rfl) (by kernel_rfl) (lits31 0 a) (lits31 0 b) w)
theorem eq61 (a b : Ky) (w : World) : (Op.equalIn 10000 61 (.agg a.enc) (.agg b.enc)).run Try.prog w = .ok (decide (a = b)) w :=
  eq_of (Ky.lits_inj a b) w (eq_deep (D := 3) (by kernel_rfl) (by kernel_rfl) (by kernel_rfl) (lits61 0 a) (lits61 0 b) w)
theorem eq67 (a b : Vl) (w : World) : (Op.equalIn 10000 67 (.agg a.enc) (.agg b.enc)).run Try.prog w = .ok (decide (a = b)) w :=
  eq_of (Vl.lits_inj a b) w (eq_deep (D := 3) (by kernel_rfl) (by kernel_rfl) (by kernel_rfl) (lits67 0 a) (lits67 0 b) w)
theorem eq71 (a b : At) (w : World) : (Op.equalIn 10000 71 (.agg a.enc) (.agg b.enc)).run Try.prog w = .ok (decide (a = b)) w :=
  eq_of (At.lits_inj a b) w (eq_deep (D := 4) (by kernel_rfl) (by kernel_rfl) (by kernel_rfl) (lits71 0 a) (lits71 0 b) w)

theorem lits118 (d : Nat) (x y z : Nat) (hx : x < 18446744073709551616) (hy : y < 18446744073709551616) (hz : z < 18446744073709551616) :
    Try.prog.keyLits (d + 2) 118 (W3 x y z).toList = some [.int .u64 (x : Int), .int .u64 (y : Int), .int .u64 (z : Int)] := by
  have h1 : (Lit.int .u64 (x : Int)).wf = true := WalkArith.wf_u64 (by omega)
  have h2 : (Lit.int .u64 (y : Int)).wf = true := WalkArith.wf_u64 (by omega)
  have h3 : (Lit.int .u64 (z : Int)).wf = true := WalkArith.wf_u64 (by omega)
  simp [Program.keyLits, Try.underlying118, Try.cells118, Try.cells65, Try.underlying65, List.range_succ, h1, h2, h3]
theorem eq118 (x y z x' y' z' : Nat) (hx : x < 18446744073709551616) (hy : y < 18446744073709551616) (hz : z < 18446744073709551616) (hx' : x' < 18446744073709551616) (hy' : y' < 18446744073709551616) (hz' : z' < 18446744073709551616) (w : World) :
    (Op.equalIn 10000 118 (.agg (W3 x y z)) (.agg (W3 x' y' z'))).run Try.prog w = .ok (decide (x = x' ∧ y = y' ∧ z = z')) w :=
  eq_of (by simp; omega) w (eq_deep (D := 2) (by kernel_rfl) (by kernel_rfl) (by kernel_rfl) (lits118 0 x y z hx hy hz) (lits118 0 x' y' z' hx' hy' hz') w)
attribute [simp] eq31 eq61 eq67 eq71

end Go.Proofs.Ythidakffgcjjiaa
