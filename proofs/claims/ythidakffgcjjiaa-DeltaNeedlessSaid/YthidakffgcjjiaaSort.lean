/- The walk of slices.SortFunc at rows of atoms, by the library's contract: a fresh row becomes the row that rises. -/
import Derived.Test.YthidakffgcjjiaaMaps
import Derived.Test.YthidakffgcjjiaaOrder
import Derived.Test.YthidakffgcjjiaaShelf
namespace Go.Proofs.Ythidakffgcjjiaa
open Go.RowKit Go.Sort Go.Lib Go.Shelf
theorem aE71 (w : World) : (isAgg (Try.sortAtoms_ren.t 24)).run Try.prog w = .ok true w := by kernel_rfl
theorem zE71 (w : World) : (Go.sizeOf (Try.sortAtoms_ren.t 24)).run Try.prog w = .ok 21 w := by kernel_rfl
def cfAt (a b : At) : Int := a.k.ord b.k
def lstAt (a : At) : List Value := a.enc.toList
theorem ltOf_cfAt (a b : At) : ltOf cfAt a b = a.k.lt b.k := by
  unfold ltOf cfAt
  rw [Bool.eq_iff_iff, decide_eq_true_iff]
  exact Ky.ord_neg _ _
theorem swoAt : SWO (ltOf cfAt) where
  irrefl x := by rw [ltOf_cfAt]; exact Ky.lt_irrefl _
  trans x y z h1 h2 := by rw [ltOf_cfAt] at *; exact Ky.lt_trans h1 h2
  ntrans x y z h1 h2 := by
    rw [ltOf_cfAt] at *
    cases h : x.k.lt z.k
    · rfl
    · have h1' : ¬ x.k.lt y.k = true := by rw [h1]; simp
      have h2' : ¬ y.k.lt z.k = true := by rw [h2]; simp
      rw [Ky.lt_iff] at h h1' h2'
      omega
theorem cmpLays80 (blk off size : Nat) (w : World) : CmpLays Try.prog 80 #[] lstAt 21 cfAt blk off size w := by
  intro m os0 dk hs x y
  have h := order_any x y (sortWorldK lstAt 21 w blk off m dk os0)
  simpa [lstAt, cfAt] using h.mono fun e w' ⟨he, n, os, hw⟩ => ⟨he, n, os, hw⟩
theorem Ext.sortWorldK {w W : World} (h : Ext w W) {blk : Nat} (hb : w.heap.size ≤ blk) (off n : Nat) (d : Array At) (os : Array Obj) : Ext w (sortWorldK lstAt 21 W blk off n d os) := by
  unfold Go.Proofs.sortWorldK putRowK putRow
  exact ((h.drewN n).mapBlock hb _).grow os

theorem sortWorldK_size (W : World) (blk off n : Nat) (d : Array At) (os : Array Obj) : W.heap.size ≤ (sortWorldK lstAt 21 W blk off n d os).heap.size := by
  unfold Go.Proofs.sortWorldK putRowK putRow mapBlock Sort.ahead
  simp

theorem lstAt_len (x : At) : (lstAt x).length = 21 := rfl
theorem rowsAt_of_holds {w : World} {b off : Nat} {d : Array At} (h : HoldsK lstAt 21 w b off d) : RowsAt w b off d.toList := by
  intro i hi j v hv
  have hi' : i < d.size := by simpa using hi
  have hj : j < 21 := by have := (Array.getElem?_eq_some_iff.1 hv).1; simpa using this
  have := (h.cell hi' hj).1
  rw [this]
  have e1 : d[i]! = d.toList[i] := by rw [getElem!_pos d i hi']; simp
  rw [e1, getElem!_pos (lstAt d.toList[i]) j (by rw [lstAt_len]; exact hj)]
  rw [← Array.getElem?_toList] at hv
  exact (List.getElem?_eq_some_iff.1 hv).2 ▸ rfl

set_option maxHeartbeats 1000000 in
theorem sort_any (blk cap : Nat) (d : List At) (w : World) (hH : HoldsK lstAt 21 w blk 0 d.toArray) (hblk : blk < w.heap.size) (hsz : d.length < 4611686018427387904) (hn : (d.map (·.k)).Nodup) :
    Calls Try.prog 114 #[.slice (some ⟨blk, 0, none⟩) d.length cap, .func (.func 80) #[] #[]] w fun e w' =>
      e = .returned (.tuple #[]) ∧ RowsAt w' blk 0 (sortAt d) ∧ (∀ w0, Ext w0 w → w0.heap.size ≤ blk → Ext w0 w') ∧ w.heap.size ≤ w'.heap.size := by
  have h := AnyQ.slices_SortFunc Try.sortAtoms 21 aE71 zE71 lstAt (fun _ => rfl) (fun x v hv => by have := x.one; rw [← Array.all_toList] at this; exact List.all_eq_true.1 this v hv) cfAt swoAt 80 #[] blk 0 cap d.toArray w (enters_of Try.func80 (by kernel_rfl) rfl) (cmpLays80 _ _ _ _) hH hblk (by simpa using hsz)
  have e : d.toArray.size = d.length := by simp
  rw [e] at h
  refine Calls.mono h ?_
  rintro e w' ⟨he, d', n, os, hp, hs, rfl⟩
  have hsize : d'.size = d.length := by have := hp.1; simp at this; exact this
  have hperm : d'.toList.Perm d := by
    have h3 := hp.2.2
    have e1 : d'.extract 0 d.length = d' := by rw [← hsize]; exact Array.extract_size
    have e2 : d.toArray.extract 0 d.length = d.toArray := by
      simp
    rw [e1, e2] at h3
    simpa using h3
  have hrise : Rising d'.toList := by
    rw [Rising, List.pairwise_iff_getElem]
    intro i j hi hj hij
    have hi' : i < d'.size := by simpa using hi
    have hj' : j < d'.size := by simpa using hj
    have := hs i j (Nat.zero_le _) hij (by omega)
    rw [getElem!_pos d' j hj', getElem!_pos d' i hi', ltOf_cfAt] at this
    rcases Ky.lt_total d'.toList[i].k d'.toList[j].k with h | h | h
    · exact h
    · have hnd : (d'.toList.map (·.k)).Nodup := (hperm.map (·.k)).nodup_iff.2 hn
      have hij2 : (d'.toList.map (·.k))[i]'(by simpa using hi) = (d'.toList.map (·.k))[j]'(by simpa using hj) := by simpa using h
      have := (List.getElem_inj hnd).1 hij2
      omega
    · have h' : d'[j].k.lt d'[i].k = true := by simpa using h
      rw [h'] at this; cases this
  have heq := sortAt_eq hrise hperm
  refine ⟨he, ?_, fun w0 hE hb => hE.sortWorldK hb _ _ _ _, sortWorldK_size _ _ _ _ _ _⟩
  rw [← heq]
  exact rowsAt_of_holds (holdsK_sortWorldK_c lstAt 21 w blk 0 d.toArray d' n os hH hblk (by rw [hsize]; simp))
end Go.Proofs.Ythidakffgcjjiaa
