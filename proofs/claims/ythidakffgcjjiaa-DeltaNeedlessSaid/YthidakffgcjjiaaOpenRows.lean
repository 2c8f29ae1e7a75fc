/- An argument that is a slice of rows of atoms, opened. -/
import Derived.Test.YthidakffgcjjiaaOpen
import Derived.Test.YthidakffgcjjiaaRag
namespace Go.Proofs.Ythidakffgcjjiaa
open Go.ChangeShapes Go.WideShapes Go.ChangeAt Go.RowKit Go.Deep

section
variable {H : Type} {enc : TypeId × Value → H} {w : World} {base : Nat} {spare : Nat → Bool} {held : Bool} {fuel : Nat}
theorem weights_all {P : Program} {e : TypeId} : ∀ {ds : List (DataW H)} {i : Nat} {d : DataW H}, ds[i]? = some d → ∀ n ∈ d.weights P e, n ∈ DataW.weightsAll P e ds
  | [], _, _, h, _, _ => by cases h
  | x :: ds, 0, d, h, n, hn => by
    cases h
    simp only [DataW.weightsAll, List.mem_append]
    exact .inl hn
  | x :: ds, i + 1, d, h, n, hn => by
    simp only [DataW.weightsAll, List.mem_append]
    exact .inr (weights_all (by simpa using h) n hn)
theorem cell_addr {a : Addr} {u : Value} (h : w.cell? a = some u) : a.spot = none ∧ a.block < w.heap.size := by
  unfold World.cell? at h
  split at h
  · rename_i hb
    split at h
    · cases h
    · rename_i hs
      refine ⟨by simpa using hs, (Array.getElem?_eq_some_iff.1 hb).1⟩
  · cases h
set_option maxRecDepth 100000 in
/-- A row within a slice of rows. -/
theorem open_row {cs : List Value} {d : DataW H} {pl : List MemPlace} (h : DataW.trod enc Try.prog w base spare held fuel 22 cs = some (d, pl)) (hw : ∀ n ∈ d.weights Try.prog 22, n ≤ reachBytes) : ∃ (s : Sv) (l : List At), cs = [s.v] ∧ Sl w s.v l := by
  rcases open_slice Try.underlying22 h with ⟨hcs, _⟩ | ⟨a, len, cap, m, n, D, Pl, hcs, _, hl, _, hm, hx, hel⟩
  · exact ⟨⟨none, 0, 0⟩, [], hcs, Sl.nil⟩
  · by_cases h0 : len = 0
    · subst h0
      exact ⟨⟨some a, 0, cap⟩, [], hcs, .inl ⟨_, _, rfl, rfl⟩⟩
    · have hlm : len ≤ m := by rw [hm]; split <;> omega
      rw [Try.cells71] at hel
      simp only [Prod.mk.injEq] at hx
      obtain ⟨rfl, _⟩ := hx
      have hreach := hw ((((List.range len).map D).length + ((List.range (m - len)).map fun j => D (len + j)).length) * Try.prog.bytesOf 71) (by simp [DataW.weights, Try.underlying22])
      have hby : Try.prog.bytesOf 71 = 40 := by kernel_rfl
      simp only [List.length_map, List.length_range, hby] at hreach
      unfold reachBytes at hreach
      obtain ⟨cs0, hc0, ht0⟩ := hel 0 (by omega)
      obtain ⟨a0, rfl⟩ := tr_at ht0
      obtain ⟨_, _, hat0⟩ := World.cells?_some hc0
      have h1 := hat0 0 (by omega)
      have e0 : (a.add (0 * 21)).add 0 = a := by simp [Addr.add]
      rw [e0] at h1
      have h2 : w.cell? a = some (a0.enc.toList.head (by simp)) := by rw [h1]; simp
      obtain ⟨hs, hb⟩ := cell_addr h2
      obtain ⟨bl, off, spot⟩ := a
      simp only at hs hb
      subst hs
      obtain ⟨l, hll, hlp⟩ := list_of (p := fun i (a : At) => Reads w bl (off + i * 21) a.enc.toList) len (fun i hi => by
        obtain ⟨cs', hc, ht'⟩ := hel i (by omega)
        obtain ⟨a, rfl⟩ := tr_at ht'
        refine ⟨a, hb, fun j u hu => ?_⟩
        obtain ⟨_, hcl, hat⟩ := World.cells?_some hc
        have hj : j < 21 := by have := (List.getElem?_eq_some_iff.1 hu).1; simpa using this
        have h1 := hat j hj
        rw [Addr.add_lit, Addr.add_lit] at h1
        rw [h1]; exact hu)
      exact ⟨⟨some ⟨bl, off, none⟩, len, cap⟩, l, hcs, .inr ⟨bl, off, cap, by rw [hll]; rfl, by rw [hll]; omega, hb, hlp⟩⟩
set_option maxRecDepth 100000 in
theorem open_rows {v : Value} {d : DataW H} {ps : List MemPlace} {ts : List TypeId} {dl : List (DataW H)} {j : Nat} {b1 : Nat} (hval : Value.okWide Try.prog w .any b1 42 v) (h : DataW.Trod enc Try.prog w base spare held 42 v d ps)
    (hsz : (DataW.weightsEach Try.prog ts dl).all (· ≤ reachBytes) = true) (ht : ts[j]? = some 42) (hd : dl[j]? = some d) : ∃ (rs : List Sv) (ls : List (List At)), Sl w v rs ∧ SS w rs ls ∧ rs.length = ls.length ∧ Capd v := by
  obtain ⟨fuel, hf⟩ := h
  obtain ⟨p, len, cap, rfl⟩ := okWide_slice Try.underlying42 hval
  have hwt : ∀ n ∈ d.weights Try.prog 42, n ≤ reachBytes := fun n hn => by simpa using List.all_eq_true.1 hsz n (DataW.weights_mem_each ht hd n hn)
  rcases open_slice Try.underlying42 hf with ⟨hcs, _⟩ | ⟨a, len', cap', m, n, D, Pl, hcs, _, hl, _, hm, hx, hel⟩
  · simp [Value.cells] at hcs
    obtain ⟨rfl, rfl, rfl⟩ := hcs
    exact ⟨[], [], Sl.nil, SS.nil, rfl, fun p n c e => by cases e; exact Nat.le_refl _⟩
  · simp [Value.cells] at hcs
    obtain ⟨rfl, rfl, rfl⟩ := hcs
    simp only [Prod.mk.injEq] at hx
    obtain ⟨rfl, _⟩ := hx
    have hok : w.has Try.prog .any b1 a 22 cap := by
      simp only [Value.okWide, Cell.okWide, Cell.ok, Try.underlying42] at hval
      exact hval.2.2
    obtain ⟨hs, hb⟩ := has_addr hok
    obtain ⟨bl, off, spot⟩ := a
    simp only at hs hb
    subst hs
    have hreach := hwt ((((List.range len).map D).length + ((List.range (m - len)).map fun j => D (len + j)).length) * Try.prog.bytesOf 22) (by simp [DataW.weights, Try.underlying42])
    have hby : Try.prog.bytesOf 22 = 24 := by kernel_rfl
    simp only [List.length_map, List.length_range, hby] at hreach
    unfold reachBytes at hreach
    have hlm : len ≤ m := by rw [hm]; split <;> omega
    have hc22 : Try.prog.cellsOf 22 = 1 := by kernel_rfl
    rw [hc22] at hel
    obtain ⟨q, hql, hqp⟩ := list_of (p := fun i (q : Sv × List At) => Reads w bl (off + i * 1) [q.1.v] ∧ Sl w q.1.v q.2) len (fun i hi => by
      obtain ⟨cs', hc, ht'⟩ := hel i (by omega)
      obtain ⟨s, l, rfl, hsl⟩ := open_row ht' (fun n hn => hwt n (by
        simp only [DataW.weights, Try.underlying42, List.mem_cons, List.mem_append]
        exact .inr (.inl (weights_all (i := i) (d := D i) (by simp [hi]) n hn))))
      refine ⟨(s, l), ⟨hb, fun j u hu => ?_⟩, hsl⟩
      obtain ⟨_, hcl, hat⟩ := World.cells?_some hc
      have hj : j < 1 := by have := (List.getElem?_eq_some_iff.1 hu).1; simpa using this
      have h1 := hat j hj
      rw [Addr.add_lit, Addr.add_lit] at h1
      rw [h1]; exact hu)
    refine ⟨q.map (·.1), q.map (·.2), .inr ⟨bl, off, cap, by rw [List.length_map, hql], by rw [List.length_map, hql]; omega, hb, fun i s hi => ?_⟩, fun i s li h1 h2 => ?_, by simp, fun p n c e => by cases e; exact hl⟩
    · rw [List.getElem?_map] at hi
      obtain ⟨x, hx, rfl⟩ := Option.map_eq_some_iff.1 hi
      exact (hqp i x hx).1
    · rw [List.getElem?_map] at h1 h2
      obtain ⟨x, hx, rfl⟩ := Option.map_eq_some_iff.1 h1
      rw [hx] at h2
      cases h2
      exact (hqp i x hx).2
end
end Go.Proofs.Ythidakffgcjjiaa
