/- A row of atoms that is being made: made empty with room, appended to within its room. -/
import Derived.Test.YthidakffgcjjiaaSort
import Derived.OwnWalk
import Derived.Laws.AppendOwn
import Derived.Laws.MakeOwn
namespace Go.Proofs.Ythidakffgcjjiaa
open Go.RowKit Go.Sort Go.Lib Go.Shelf

/-- Block g is a row of atoms with room for cap, of which the first are d. -/
def OutAt (w : World) (g cap : Nat) (d : List At) : Prop :=
  ∃ cur, w.heap[g]? = some (.cells cur 71 (0, 0)) ∧ cur.size = cap * 21 ∧ d.length ≤ cap ∧ cur.toList.take (d.length * 21) = d.flatMap lstAt

theorem OutAt.lt {w : World} {g cap : Nat} {d : List At} (h : OutAt w g cap d) : g < w.heap.size := by
  obtain ⟨cur, hb, _⟩ := h
  exact (Array.getElem?_eq_some_iff.1 hb).1
theorem OutAt.kept {w w' : World} {g cap : Nat} {d : List At} (h : OutAt w g cap d) (hk : w'.heap[g]? = w.heap[g]?) : OutAt w' g cap d := by
  obtain ⟨cur, hb, r⟩ := h
  exact ⟨cur, hk.trans hb, r⟩
theorem OutAt.ext {w w' : World} {g cap : Nat} {d : List At} (h : OutAt w g cap d) (hE : Ext w w') : OutAt w' g cap d := h.kept (hE.heap h.lt)

theorem flat_len : ∀ (d : List At), (d.flatMap lstAt).length = d.length * 21
  | [] => rfl
  | a :: d => by rw [List.flatMap_cons, List.length_append, flat_len d, lstAt_len, List.length_cons]; omega
theorem flat_get : ∀ (d : List At) (i j : Nat) (hi : i < d.length), j < 21 → (d.flatMap lstAt)[i * 21 + j]? = (lstAt d[i])[j]?
  | a :: d, 0, j, _, hj => by
    rw [List.flatMap_cons, Nat.zero_mul, Nat.zero_add, List.getElem?_append_left (by rw [lstAt_len]; exact hj)]
    rfl
  | a :: d, i + 1, j, hi, hj => by
    have hi' : i < d.length := by simpa using hi
    rw [List.flatMap_cons, List.getElem?_append_right (by rw [lstAt_len]; omega), lstAt_len]
    have : (i + 1) * 21 + j - 21 = i * 21 + j := by omega
    rw [this, flat_get d i j hi' hj]
    rfl
theorem OutAt.holds {w : World} {g cap : Nat} {d : List At} (h : OutAt w g cap d) : HoldsK lstAt 21 w g 0 d.toArray := by
  obtain ⟨cur, hb, hs, hd, ht⟩ := h
  intro t ht'
  rw [size_flatK] at ht'
  have htl : t < d.length * 21 := by simpa using ht'
  have hcell := cell_of_row w g t cur 71 (0, 0) hb
  have hq : t / 21 < d.length := by omega
  have hc : cur[t]? = some (flatK lstAt 21 d.toArray)[t]! := by
    rw [get_flatK _ _ _ _ ht']
    have h1 : cur.toList[t]? = (d.flatMap lstAt)[t]? := by
      rw [← ht, List.getElem?_take, if_pos htl]
    rw [← Array.getElem?_toList, h1]
    have h2 := flat_get d (t / 21) (t % 21) hq (Nat.mod_lt _ (by omega))
    have h3 : t / 21 * 21 + t % 21 = t := by omega
    rw [h3] at h2
    rw [h2, List.getElem?_eq_getElem (by rw [lstAt_len]; exact Nat.mod_lt _ (by omega))]
    have e1 : d.toArray[t / 21]! = d[t / 21] := by rw [getElem!_pos d.toArray (t / 21) (by simpa using hq)]; simp
    rw [e1, getElem!_pos (lstAt d[t / 21]) (t % 21) (by rw [lstAt_len]; exact Nat.mod_lt _ (by omega))]
  refine ⟨?_, ?_⟩
  · rw [Nat.zero_add, hcell, hc]; rfl
  · rw [Nat.zero_add]; exact frozen_of_row w g t cur 71 hb
theorem OutAt.rows {w : World} {g cap : Nat} {d : List At} (h : OutAt w g cap d) : RowsAt w g 0 d := by
  have := rowsAt_of_holds h.holds
  simpa using this

def At.zero : At := ⟨⟨0, 0, Nm.zero, 0, 0⟩, Vl.zero⟩
theorem infos71 : (Try.prog.info? 71).map (fun i => (i.zero, i.size, i.bytes)) = some (some (.agg At.zero.enc), 21, 40) := by kernel_rfl

theorem make71 (w : World) (c : Nat) (hc : c ≤ 1048576) : ∃ cs, (Instr.makeSlice 22 (.int .i64 0) (.int .i64 (c : Int))).run Try.prog w = .ok (.slice (some ⟨w.heap.size, 0, none⟩) 0 c) (w.alloc (.cells cs 71)) ∧ OutAt (w.alloc (.cells cs 71)) w.heap.size c [] := by
  obtain ⟨i, hi, hz, hs, hb⟩ := info_parts infos71
  have := run_make (P := Try.prog) w 22 71 i _ Try.underlying22 hi hz .i64 .i64 0 c (by omega) (by omega) (by rw [hb]; omega) (by omega)
  refine ⟨_, by simpa using this, _, (MapKept.heap_alloc w _).1, ?_, by simp, by simp⟩
  rw [size_madeCells, hs]

theorem Ext.setRow {w W : World} (h : Ext w W) {g : Nat} (hg : w.heap.size ≤ g) (cs : Array Value) : Ext w (W.setRow g cs) := h.mapBlock hg _

theorem append71 {w : World} {g cap : Nat} {d : List At} {b : Nat} {v : At} (h : OutAt w g cap d) (hC : C21 w b 0 v) (hroom : d.length + 1 ≤ cap) (ty : TypeId) :
    ∃ cs, (Builtin.append_ #[22, 22] ty #[.slice (some ⟨g, 0, none⟩) d.length cap, .slice (some ⟨b, 0, none⟩) 1 1]).run Try.prog w = .ok (.slice (some ⟨g, 0, none⟩) (d ++ [v]).length cap) (w.setRow g cs) ∧ OutAt (w.setRow g cs) g cap (d ++ [v]) := by
  obtain ⟨i, hi, hz, hs, hb⟩ := info_parts infos71
  obtain ⟨cur, hg, hsz, hd, ht⟩ := h
  have hcur : d.length * i.size + (lstAt v).length ≤ cur.size := by rw [hs, lstAt_len, hsz]; omega
  have := run_append_room (P := Try.prog) w 22 ty 71 i Try.underlying22 hi g d.length cap cur hg ⟨b, 0, none⟩ 1 1 (lstAt v) (by rw [hs]; rfl) (fun j u hu => by
    rw [Addr.add_lit, Nat.zero_add]
    obtain ⟨h0, h1, h2, h3, h4, h5, h6, h7, h8, h9, h10, h11, h12, h13, h14, h15, h16, h17, h18, h19, h20⟩ := hC
    have hj : j < 21 := by have := (List.getElem?_eq_some_iff.1 hu).1; rwa [lstAt_len] at this
    have hj' : j = 0 ∨ j = 1 ∨ j = 2 ∨ j = 3 ∨ j = 4 ∨ j = 5 ∨ j = 6 ∨ j = 7 ∨ j = 8 ∨ j = 9 ∨ j = 10 ∨ j = 11 ∨ j = 12 ∨ j = 13 ∨ j = 14 ∨ j = 15 ∨ j = 16 ∨ j = 17 ∨ j = 18 ∨ j = 19 ∨ j = 20 := by omega
    rcases hj' with rfl | rfl | rfl | rfl | rfl | rfl | rfl | rfl | rfl | rfl | rfl | rfl | rfl | rfl | rfl | rfl | rfl | rfl | rfl | rfl | rfl
    all_goals (cases hu; simpa using by assumption)) (fun u hu => by have := v.one; rw [← Array.all_toList] at this; exact List.all_eq_true.1 this u hu) hroom hcur
  refine ⟨_, by rw [List.length_append]; exact this, _, setRow_heap w g cur _ 71 _ hg, ?_, by simp; omega, ?_⟩
  · simp only [List.size_toArray, List.length_append, List.length_take, List.length_drop, Array.length_toList, lstAt_len, hs, hsz]
    omega
  · simp only [hs, lstAt_len]
    have hlen : (cur.toList.take (d.length * 21) ++ lstAt v).length = (d ++ [v]).length * 21 := by
      simp only [List.length_append, List.length_take, Array.length_toList, lstAt_len, hsz, List.length_cons, List.length_nil]
      omega
    rw [← hlen, List.take_left, ht, List.flatMap_append]
    simp
end Go.Proofs.Ythidakffgcjjiaa
