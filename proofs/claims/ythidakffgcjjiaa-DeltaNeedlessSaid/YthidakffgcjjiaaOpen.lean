/- The statements' arguments opened: whatever reads as a row of atoms is one; numbers, names, spots. -/
import Derived.Test.YthidakffgcjjiaaCons
import Derived.ProofKit
import Derived.Deep.Slices
import Derived.OpenShut
import Derived.SizedLaws
namespace Go.Proofs.Ythidakffgcjjiaa
open Go.ChangeShapes Go.WideShapes Go.ChangeAt Go.RowKit Go.Deep

theorem Try.own : ownKnob Try.prog.godebug = none := by kernel_rfl
section
variable {H : Type} {enc : TypeId × Value → H} {w : World} {base : Nat} {spare : Nat → Bool} {held : Bool} {fuel : Nat} {cs : List Value} {x : DataW H × List MemPlace}

theorem wf_rng {k : IntKind} {n : Int} (h : (Lit.int k n).wf = true) : k.min ≤ n ∧ n ≤ k.max := by
  simpa [Lit.wf] using h
set_option maxRecDepth 100000 in
theorem tr_u8 {T : TypeId} (ht : Try.prog.underlying T = some (.int .u8)) (h : DataW.trod enc Try.prog w base spare held fuel T cs = some x) : ∃ c : UInt8, cs = [U8 c] := by
  obtain ⟨n, rfl, _, hw⟩ := DataW.trod_int ht h
  obtain ⟨h1, h2⟩ := wf_rng hw
  have h1 : 0 ≤ n := by simpa [IntKind.min, IntKind.signed] using h1
  have h2 : n ≤ 255 := by simpa [IntKind.max, IntKind.signed, IntKind.bits] using h2
  refine ⟨UInt8.ofNat n.toNat, ?_⟩
  have h3 : (UInt8.ofNat n.toNat).toNat = n.toNat := by simp; omega
  simp only [U8, h3]
  congr 2; omega
set_option maxRecDepth 100000 in
theorem tr_u16 {T : TypeId} (ht : Try.prog.underlying T = some (.int .u16)) (h : DataW.trod enc Try.prog w base spare held fuel T cs = some x) : ∃ c : UInt16, cs = [U16 c] := by
  obtain ⟨n, rfl, _, hw⟩ := DataW.trod_int ht h
  obtain ⟨h1, h2⟩ := wf_rng hw
  have h1 : 0 ≤ n := by simpa [IntKind.min, IntKind.signed] using h1
  have h2 : n ≤ 65535 := by simpa [IntKind.max, IntKind.signed, IntKind.bits] using h2
  refine ⟨UInt16.ofNat n.toNat, ?_⟩
  have h3 : (UInt16.ofNat n.toNat).toNat = n.toNat := by simp; omega
  simp only [U16, h3]
  congr 2; omega
set_option maxRecDepth 100000 in
theorem tr_u32 {T : TypeId} (ht : Try.prog.underlying T = some (.int .u32)) (h : DataW.trod enc Try.prog w base spare held fuel T cs = some x) : ∃ c : UInt32, cs = [U32 c] := by
  obtain ⟨n, rfl, _, hw⟩ := DataW.trod_int ht h
  obtain ⟨h1, h2⟩ := wf_rng hw
  have h1 : 0 ≤ n := by simpa [IntKind.min, IntKind.signed] using h1
  have h2 : n ≤ 4294967295 := by simpa [IntKind.max, IntKind.signed, IntKind.bits] using h2
  refine ⟨UInt32.ofNat n.toNat, ?_⟩
  have h3 : (UInt32.ofNat n.toNat).toNat = n.toNat := by simp; omega
  simp only [U32, h3]
  congr 2; omega
set_option maxRecDepth 100000 in
theorem tr_u64 {T : TypeId} (ht : Try.prog.underlying T = some (.int .u64)) (h : DataW.trod enc Try.prog w base spare held fuel T cs = some x) : ∃ c : UInt64, cs = [U64 c] := by
  obtain ⟨n, rfl, _, hw⟩ := DataW.trod_int ht h
  obtain ⟨h1, h2⟩ := wf_rng hw
  have h1 : 0 ≤ n := by simpa [IntKind.min, IntKind.signed] using h1
  have h2 : n ≤ 18446744073709551615 := by simpa [IntKind.max, IntKind.signed, IntKind.bits] using h2
  refine ⟨UInt64.ofNat n.toNat, ?_⟩
  have h3 : (UInt64.ofNat n.toNat).toNat = n.toNat := by simp; omega
  simp only [U64, h3]
  congr 2; omega
theorem piece (cs : List Value) (a b : Nat) : cs.drop a = (cs.drop a).take b ++ cs.drop (a + b) := by rw [← List.drop_drop, List.take_append_drop]
theorem tr_nm (h : DataW.trod enc Try.prog w base spare held fuel 31 cs = some x) : ∃ n : Nm, cs = n.enc.toList := by
  obtain ⟨xs, m, _, _, hl, hxl, hf⟩ := DataW.trod_array Try.underlying31 h
  rw [Try.cells31] at hl
  have get : ∀ i, i < 8 → ∃ c : UInt8, (cs.drop i).take 1 = [U8 c] := fun i hi => by
    have h1 := hf i hi
    rw [Try.cells5, Nat.mul_one] at h1
    have h2 : xs[i]? = some (xs[i]'(by omega)) := List.getElem?_eq_getElem (by omega)
    exact tr_u8 Try.underlying5 (h1.trans h2)
  obtain ⟨c0, e0⟩ := get 0 (by omega); obtain ⟨c1, e1⟩ := get 1 (by omega); obtain ⟨c2, e2⟩ := get 2 (by omega); obtain ⟨c3, e3⟩ := get 3 (by omega)
  obtain ⟨c4, e4⟩ := get 4 (by omega); obtain ⟨c5, e5⟩ := get 5 (by omega); obtain ⟨c6, e6⟩ := get 6 (by omega); obtain ⟨c7, e7⟩ := get 7 (by omega)
  refine ⟨⟨c0, c1, c2, c3, c4, c5, c6, c7⟩, ?_⟩
  have : cs = cs.drop 0 := rfl
  rw [this, piece cs 0 1, piece cs 1 1, piece cs 2 1, piece cs 3 1, piece cs 4 1, piece cs 5 1, piece cs 6 1, piece cs 7 1, e0, e1, e2, e3, e4, e5, e6, e7, List.drop_eq_nil_of_le (by omega)]
  rfl
theorem tr_ky (h : DataW.trod enc Try.prog w base spare held fuel 61 cs = some x) : ∃ k : Ky, cs = k.enc.toList := by
  obtain ⟨xs, m, _, _, hl, hxl, hf⟩ := DataW.trod_struct Try.underlying61 h
  rw [Try.cells61] at hl
  have hx : xs.length = 5 := hxl
  have g : ∀ i (hi : i < 5), xs[i]? = some (xs[i]'(by omega)) := fun i hi => List.getElem?_eq_getElem (by omega)
  obtain ⟨c0, e0⟩ := tr_u8 Try.underlying5 ((hf 0 _ rfl).trans (g 0 (by omega)))
  obtain ⟨c1, e1⟩ := tr_u16 Try.underlying29 ((hf 1 _ rfl).trans (g 1 (by omega)))
  obtain ⟨c2, e2⟩ := tr_nm ((hf 2 _ rfl).trans (g 2 (by omega)))
  obtain ⟨c3, e3⟩ := tr_u8 Try.underlying5 ((hf 3 _ rfl).trans (g 3 (by omega)))
  obtain ⟨c4, e4⟩ := tr_u32 Try.underlying34 ((hf 4 _ rfl).trans (g 4 (by omega)))
  simp only [List.getElem_toArray, List.getElem_cons_zero, List.getElem_cons_succ, Try.cells5, Try.cells29, Try.cells31, Try.cells34] at e0 e1 e2 e3 e4
  refine ⟨⟨c0, c1, c2, c3, c4⟩, ?_⟩
  have : cs = cs.drop 0 := rfl
  rw [this, piece cs 0 1, piece cs 1 1, piece cs 2 8, piece cs 10 1, piece cs 11 1, e0, e1, e2, e3, e4, List.drop_eq_nil_of_le (by omega)]
  rfl
theorem tr_vl (h : DataW.trod enc Try.prog w base spare held fuel 67 cs = some x) : ∃ k : Vl, cs = k.enc.toList := by
  obtain ⟨xs, m, _, _, hl, hxl, hf⟩ := DataW.trod_struct Try.underlying67 h
  rw [Try.cells67] at hl
  have hx : xs.length = 2 := hxl
  have g : ∀ i (hi : i < 2), xs[i]? = some (xs[i]'(by omega)) := fun i hi => List.getElem?_eq_getElem (by omega)
  obtain ⟨c0, e0⟩ := tr_u64 Try.underlying65 ((hf 0 _ rfl).trans (g 0 (by omega)))
  obtain ⟨c1, e1⟩ := tr_nm ((hf 1 _ rfl).trans (g 1 (by omega)))
  simp only [List.getElem_toArray, List.getElem_cons_zero, List.getElem_cons_succ, Try.cells65, Try.cells31] at e0 e1
  refine ⟨⟨c0, c1⟩, ?_⟩
  have : cs = cs.drop 0 := rfl
  rw [this, piece cs 0 1, piece cs 1 8, e0, e1, List.drop_eq_nil_of_le (by omega)]
  rfl
theorem tr_at (h : DataW.trod enc Try.prog w base spare held fuel 71 cs = some x) : ∃ a : At, cs = a.enc.toList := by
  obtain ⟨xs, m, _, _, hl, hxl, hf⟩ := DataW.trod_struct Try.underlying71 h
  rw [Try.cells71] at hl
  have hx : xs.length = 2 := hxl
  have g : ∀ i (hi : i < 2), xs[i]? = some (xs[i]'(by omega)) := fun i hi => List.getElem?_eq_getElem (by omega)
  obtain ⟨c0, e0⟩ := tr_ky ((hf 0 _ rfl).trans (g 0 (by omega)))
  obtain ⟨c1, e1⟩ := tr_vl ((hf 1 _ rfl).trans (g 1 (by omega)))
  simp only [List.getElem_toArray, List.getElem_cons_zero, List.getElem_cons_succ, Try.cells61, Try.cells67] at e0 e1
  refine ⟨⟨c0, c1⟩, ?_⟩
  have : cs = cs.drop 0 := rfl
  rw [this, piece cs 0 12, piece cs 12 9, e0, e1, List.drop_eq_nil_of_le (by omega)]
  rfl
theorem list_of {α : Type} {p : Nat → α → Prop} : ∀ n, (∀ i, i < n → ∃ a, p i a) → ∃ l : List α, l.length = n ∧ ∀ i a, l[i]? = some a → p i a
  | 0, _ => ⟨[], rfl, fun _ _ h => by cases h⟩
  | n + 1, h => by
    obtain ⟨l, hl, hp⟩ := list_of n (fun i hi => h i (by omega))
    obtain ⟨a, ha⟩ := h n (by omega)
    refine ⟨l ++ [a], by simp [hl], fun i b hb => ?_⟩
    by_cases hi : i < l.length
    · rw [List.getElem?_append_left hi] at hb; exact hp i b hb
    · rw [List.getElem?_append_right (by omega)] at hb
      have h0 : i - l.length = 0 := by
        have := (List.getElem?_eq_some_iff.1 hb).1
        simp only [List.length_singleton] at this; omega
      rw [h0] at hb
      cases hb
      have : i = n := by omega
      rw [this]; exact ha
theorem has_addr {r : Reach} {b0 : Nat} {a : Addr} {e n : Nat} (h : w.has Try.prog r b0 a e n) : a.spot = none ∧ a.block < w.heap.size := by
  obtain ⟨_, h1, row, cells, h2, _⟩ := h
  refine ⟨h1, ?_⟩
  unfold World.shape? at h2
  split at h2
  · rename_i hb; exact (Array.getElem?_eq_some_iff.1 hb).1
  · cases h2
set_option maxRecDepth 100000 in
/-- A slice of atoms. -/
theorem open_atoms {v : Value} {d : DataW H} {ps : List MemPlace} {ts : List TypeId} {dl : List (DataW H)} {j : Nat} {b1 : Nat} (hval : Value.okWide Try.prog w .any b1 22 v) (h : DataW.Trod enc Try.prog w base spare held 22 v d ps)
    (hsz : (DataW.weightsEach Try.prog ts dl).all (· ≤ reachBytes) = true) (ht : ts[j]? = some 22) (hd : dl[j]? = some d) : ∃ l : List At, Sl w v l := by
  obtain ⟨fuel, hf⟩ := h
  obtain ⟨p, len, cap, rfl⟩ := okWide_slice Try.underlying22 hval
  rcases open_slice Try.underlying22 hf with ⟨hcs, _⟩ | ⟨a, len', cap', m, n, D, Pl, hcs, _, hl, _, hm, hx, hel⟩
  · simp [Value.cells] at hcs
    obtain ⟨rfl, rfl, rfl⟩ := hcs
    exact ⟨[], Sl.nil⟩
  · simp [Value.cells] at hcs
    obtain ⟨rfl, rfl, rfl⟩ := hcs
    simp only [Prod.mk.injEq] at hx
    obtain ⟨rfl, _⟩ := hx
    have hok : w.has Try.prog .any b1 a 71 cap := by
      simp only [Value.okWide, Cell.okWide, Cell.ok, Try.underlying22] at hval
      exact hval.2.2
    obtain ⟨hs, hb⟩ := has_addr hok
    obtain ⟨bl, off, spot⟩ := a
    simp only at hs hb
    subst hs
    have hreach := sized_slice hsz ht hd Try.underlying22
    have hby : Try.prog.bytesOf 71 = 40 := by kernel_rfl
    simp only [List.length_map, List.length_range, hby] at hreach
    unfold reachBytes at hreach
    have hlm : len ≤ m := by rw [hm]; split <;> omega
    rw [Try.cells71] at hel
    obtain ⟨l, hll, hlp⟩ := list_of (p := fun i (a : At) => Reads w bl (off + i * 21) a.enc.toList) len (fun i hi => by
      obtain ⟨cs', hc, ht'⟩ := hel i (by omega)
      obtain ⟨a, rfl⟩ := tr_at ht'
      refine ⟨a, hb, fun j u hu => ?_⟩
      obtain ⟨_, hcl, hat⟩ := World.cells?_some hc
      have hj : j < 21 := by have := (List.getElem?_eq_some_iff.1 hu).1; simpa using this
      have h1 := hat j hj
      rw [Addr.add_lit, Addr.add_lit] at h1
      rw [h1]; exact hu)
    exact ⟨l, .inr ⟨bl, off, cap, by rw [hll], by rw [hll]; omega, hb, hlp⟩⟩
end
/-- What a statement has kept: an argument reads as it did. -/
theorem kept_arg {H : Type} {enc : TypeId × Value → H} {t : TypeId} {W W' : World} {v : Value} {d : DataW H} {ps : List MemPlace} (hr : Try.prog.readableRec t = true) (hrow : t < Try.prog.types.size) (h : DataW.Trod enc Try.prog W 0 (fun _ => true) true t v d ps) (hb : Bw W W') (hlt : ∀ x ∈ ps, x.block < W.heap.size) :
    DataW.Trod enc Try.prog W' 0 (fun b => decide (b < W.heap.size)) true t v d ps := RowKit.Below.trod laidOutT hr hrow h hb hlt
theorem shut_true {H : Type} {enc : TypeId × Value → H} {w : World} {base : Nat} {spare : Nat → Bool} {held : Bool} : DataW.Trod enc Try.prog w base spare held 4 (.bool true) (.lit (.bool true)) [] := ⟨1, by simp [DataW.trod, Value.cells, Try.underlying4]⟩
end Go.Proofs.Ythidakffgcjjiaa
