/- Rows of atoms in memory: the predicate, and the walks of the functions that read rows alone. -/
import Derived.Test.YthidakffgcjjiaaAtomr
import Derived.Deep.QuietTactic
import Derived.Shelf.SlSortCmp.NoneTotal
import Derived.Shelf.SlicesQ.Load
namespace Go.Proofs.Ythidakffgcjjiaa
open Go.RowKit Go.Sort

/-- The cells of block b from off on read as the atoms l. -/
def RowsAt (w : World) (b off : Nat) (l : List At) : Prop := ∀ i, ∀ hi : i < l.length, ∀ j v, l[i].enc[j]? = some v → w.cell? ⟨b, off + i * 21 + j, none⟩ = some v

/-- The value v is a slice that reads as the atoms l. -/
def Rows (w : World) (v : Value) (l : List At) : Prop :=
  (v = .slice none 0 0 ∧ l = []) ∨ ∃ b off cap, v = .slice (some ⟨b, off, none⟩) l.length cap ∧ b < w.heap.size ∧ l.length < 4611686018427387904 ∧ RowsAt w b off l

theorem RowsAt.ext {w w' : World} {b off : Nat} {l : List At} (h : RowsAt w b off l) (hb : b < w.heap.size) (hE : Ext w w') : RowsAt w' b off l := fun i hi j v hv => by
  rw [hE.bcell _ _ hb]; exact h i hi j v hv
theorem Rows.ext {w w' : World} {v : Value} {l : List At} (h : Rows w v l) (hE : Ext w w') : Rows w' v l := by
  rcases h with h | ⟨b, off, cap, h1, h2, h3⟩
  · exact .inl h
  · exact .inr ⟨b, off, cap, h1, Nat.lt_of_lt_of_le h2 hE.size, h3.1, h3.2.ext h2 hE⟩
theorem RowsAt.load {w : World} {b off : Nat} {l : List At} (h : RowsAt w b off l) (i : Nat) (hi : i < l.length) : Sem.run Try.prog (loadCellsFrom ⟨b, off + i * 21, none⟩ 0 21 #[]) w = .ok l[i].enc w := by
  have := run_loadCellsFrom_list Try.prog w ⟨b, off + i * 21, none⟩ l[i].enc.toList 21 (by rfl) (fun j v hv => by
    rw [Addr.add_lit]
    exact h i hi j v (by rw [← Array.getElem?_toList]; exact hv))
  rw [Array.toArray_toList] at this
  exact this
theorem RowsAt.drewN {w : World} {b off : Nat} {l : List At} (h : RowsAt w b off l) (n : Nat) : RowsAt (w.drewN n) b off l := h
theorem Rows.len {w : World} {v : Value} {l : List At} (h : Rows w v l) : ∃ p cap, v = .slice p l.length cap := by
  rcases h with ⟨h, rfl⟩ | ⟨b, off, cap, h1, _⟩
  · exact ⟨_, _, h⟩
  · exact ⟨_, _, h1⟩

/-- The cells of block b from o on read as the atom a. -/
def C21 (w : World) (b o : Nat) (a : At) : Prop := w.cell? ⟨b, o, none⟩ = some (U8 a.k.sort) ∧ w.cell? ⟨b, o + 1, none⟩ = some (U16 a.k.cart) ∧ w.cell? ⟨b, o + 2, none⟩ = some (U8 a.k.item.b0) ∧ w.cell? ⟨b, o + 3, none⟩ = some (U8 a.k.item.b1) ∧ w.cell? ⟨b, o + 4, none⟩ = some (U8 a.k.item.b2) ∧ w.cell? ⟨b, o + 5, none⟩ = some (U8 a.k.item.b3) ∧ w.cell? ⟨b, o + 6, none⟩ = some (U8 a.k.item.b4) ∧ w.cell? ⟨b, o + 7, none⟩ = some (U8 a.k.item.b5) ∧ w.cell? ⟨b, o + 8, none⟩ = some (U8 a.k.item.b6) ∧ w.cell? ⟨b, o + 9, none⟩ = some (U8 a.k.item.b7) ∧ w.cell? ⟨b, o + 10, none⟩ = some (U8 a.k.rep) ∧ w.cell? ⟨b, o + 11, none⟩ = some (U32 a.k.seq) ∧ w.cell? ⟨b, o + 12, none⟩ = some (U64 a.v.n) ∧ w.cell? ⟨b, o + 13, none⟩ = some (U8 a.v.text.b0) ∧ w.cell? ⟨b, o + 14, none⟩ = some (U8 a.v.text.b1) ∧ w.cell? ⟨b, o + 15, none⟩ = some (U8 a.v.text.b2) ∧ w.cell? ⟨b, o + 16, none⟩ = some (U8 a.v.text.b3) ∧ w.cell? ⟨b, o + 17, none⟩ = some (U8 a.v.text.b4) ∧ w.cell? ⟨b, o + 18, none⟩ = some (U8 a.v.text.b5) ∧ w.cell? ⟨b, o + 19, none⟩ = some (U8 a.v.text.b6) ∧ w.cell? ⟨b, o + 20, none⟩ = some (U8 a.v.text.b7)
theorem RowsAt.c21 {w : World} {b off : Nat} {l : List At} (h : RowsAt w b off l) (i : Nat) (hi : i < l.length) : C21 w b (off + i * 21) l[i] :=
  ⟨h i hi 0 _ rfl, h i hi 1 _ rfl, h i hi 2 _ rfl, h i hi 3 _ rfl, h i hi 4 _ rfl, h i hi 5 _ rfl, h i hi 6 _ rfl, h i hi 7 _ rfl, h i hi 8 _ rfl, h i hi 9 _ rfl, h i hi 10 _ rfl, h i hi 11 _ rfl, h i hi 12 _ rfl, h i hi 13 _ rfl, h i hi 14 _ rfl, h i hi 15 _ rfl, h i hi 16 _ rfl, h i hi 17 _ rfl, h i hi 18 _ rfl, h i hi 19 _ rfl, h i hi 20 _ rfl⟩
theorem C21.load {w : World} {b o : Nat} {a : At} (h : C21 w b o a) : (Instr.loadAt 71 (.pointer (some ⟨b, o, none⟩))).run Try.prog w = .ok (.agg a.enc) w := by
  obtain ⟨h0, h1, h2, h3, h4, h5, h6, h7, h8, h9, h10, h11, h12, h13, h14, h15, h16, h17, h18, h19, h20⟩ := h
  have hl := run_loadCellsFrom_list Try.prog w ⟨b, o, none⟩ a.enc.toList 21 rfl (fun j v hv => by
    rw [Addr.add_lit]
    have hj : j < 21 := by have := (List.getElem?_eq_some_iff.1 hv).1; simpa using this
    have hj' : j = 0 ∨ j = 1 ∨ j = 2 ∨ j = 3 ∨ j = 4 ∨ j = 5 ∨ j = 6 ∨ j = 7 ∨ j = 8 ∨ j = 9 ∨ j = 10 ∨ j = 11 ∨ j = 12 ∨ j = 13 ∨ j = 14 ∨ j = 15 ∨ j = 16 ∨ j = 17 ∨ j = 18 ∨ j = 19 ∨ j = 20 := by omega
    rcases hj' with rfl | rfl | rfl | rfl | rfl | rfl | rfl | rfl | rfl | rfl | rfl | rfl | rfl | rfl | rfl | rfl | rfl | rfl | rfl | rfl | rfl
    all_goals (cases hv; assumption))
  rw [Array.toArray_toList] at hl
  have aE : (isAgg 71).run Try.prog w = .ok true w := by kernel_rfl
  have zE : (Go.sizeOf 71).run Try.prog w = .ok 21 w := by kernel_rfl
  simp only [Instr.loadAt, Instr.sureAddr, Sem.run_bind, Sem.run_pure, Result.andThen_ok, loadVar, aE, zE, loadCells, hl, if_true]
theorem C21.exec {w : World} {b o : Nat} {a : At} (h : C21 w b o a) {ρ : Operand → Value} {x : Operand} {op : Oper} (ho : op.op = Op.load 71 x) (hx : ρ x = .pointer (some ⟨b, o, none⟩)) : (execOp ρ op).run Try.prog w = .ok (.value (.agg a.enc)) w := by
  simp only [execOp, ho, hx, Sem.run_bind, h.load, Result.andThen_ok, Sem.run_pure]
theorem C21.ext {w w' : World} {b o : Nat} {a : At} (h : C21 w b o a) (hb : b < w.heap.size) (hE : Ext w w') : C21 w' b o a := by
  unfold C21 at *
  simp only [hE.bcell _ _ hb]
  exact h

set_option maxRecDepth 100000 in
set_option maxHeartbeats 1000000 in
theorem rows_any (va vb : Value) (la lb : List At) (w : World) (ha : Rows w va la) (hb : Rows w vb lb) :
    Calls Try.prog 15 #[va, vb] w fun e w' => e = .returned (.bool (decide (la = lb))) ∧ Ext w w' := by
  have hm := Try.mixed
  by_cases hlen : la.length = lb.length
  · rcases ha with ⟨rfl, rfl⟩ | ⟨ba, oa, ca, rfl, hba, hsa, hra⟩
    · obtain rfl : lb = [] := List.length_eq_zero_iff.1 hlen.symm
      obtain ⟨pb, cb, rfl⟩ := hb.len
      clear hb hlen
      go_enter Try.func15, Try.ntmps15
      go_wp2
      go_loopw [5] (fun i wr => i = .int .i64 0 ∧ wr = w) (fun _ _ => 0)
      case atStart => exact ⟨rfl, rfl⟩
      case round =>
        obtain ⟨rfl, rfl⟩ := hrel
        go_wp2
        go_ret
        exact ⟨rfl, Ext.refl _⟩
    · rcases hb with ⟨rfl, rfl⟩ | ⟨bb, ob, cb, rfl, hbb, hsb, hrb⟩
      · obtain rfl : la = [] := List.length_eq_zero_iff.1 hlen
        clear hra hlen
        go_enter Try.func15, Try.ntmps15
        go_wp2
        go_loopw [5] (fun i wr => i = .int .i64 0 ∧ wr = w) (fun _ _ => 0)
        case atStart => exact ⟨rfl, rfl⟩
        case round =>
          obtain ⟨rfl, rfl⟩ := hrel
          go_wp2
          go_ret
          exact ⟨rfl, Ext.refl _⟩
      · have HA := Lib.hid hra; clear hra
        have HB := Lib.hid hrb; clear hrb
        go_enter Try.func15, Try.ntmps15
        go_wp2
        go_loopw [5] (fun i wr => ∃ k : Nat, k ≤ la.length ∧ i = .int .i64 k ∧ la.take k = lb.take k ∧ Ext w wr) (fun i _ => la.length - (intOf i).toNat)
        case atStart => exact ⟨0, Nat.zero_le _, rfl, rfl, Ext.refl w⟩
        case round =>
          obtain ⟨k, hk, rfl, ht, hE⟩ := hrel
          have HT := Lib.hid ht; clear ht
          have HE := Lib.hid hE
          by_cases hlt : k < la.length
          · have hl1 := (HA.out.ext hba hE).c21 k hlt
            have hl2 := (HB.out.ext hbb hE).c21 k (by omega)
            have hkb : (k : Int) < lb.length := by omega
            have hka : (k : Int) < la.length := by omega
            obtain ⟨x, hx⟩ : ∃ x, la[k] = x := ⟨_, rfl⟩
            obtain ⟨y, hy⟩ : ∃ y, lb[k]'(by omega) = y := ⟨_, rfl⟩
            rw [hx] at hl1
            rw [hy] at hl2
            have HX := Lib.hid hx; have HY := Lib.hid hy; clear hx hy
            obtain ⟨o1, ho1⟩ : ∃ o, oa + k * 21 = o := ⟨_, rfl⟩
            obtain ⟨o2, ho2⟩ : ∃ o, ob + k * 21 = o := ⟨_, rfl⟩
            rw [ho1] at hl1
            rw [ho2] at hl2
            have HL1 := Lib.hid hl1; have HL2 := Lib.hid hl2; clear hl1 hl2
            have hwa : ba < wr.heap.size := Nat.lt_of_lt_of_le hba hE.size
            have hwb : bb < wr.heap.size := Nat.lt_of_lt_of_le hbb hE.size
            by_cases hxy : x = y
            · have hd : decide (x = y) = true := by simp [hxy]
              have HXY := Lib.hid hxy; clear hxy
              go_wp2
              refine wp_region_drawn 9 (fun i v W => match i with
                  | 0 => v = .slice (some ⟨ba, oa, none⟩) la.length ca
                  | 1 => v = .int .i64 k
                  | 2 => v = .pointer (some ⟨ba, o1, none⟩)
                  | 3 => v = .agg x.enc
                  | 4 => v = .slice (some ⟨bb, ob, none⟩) lb.length cb
                  | 5 => v = .int .i64 k
                  | 6 => v = .pointer (some ⟨bb, o2, none⟩)
                  | 7 => v = .agg y.enc
                  | 8 => v = .bool false
                  | _ => True) (fun vs => ⟨#[.slice (some ⟨ba, oa, none⟩) la.length ca, .slice (some ⟨bb, ob, none⟩) lb.length cb, undef, undef, u4, .int .i64 k, .slice (some ⟨ba, oa, none⟩) la.length ca, .int .i64 lb.length, .slice (some ⟨bb, ob, none⟩) lb.length cb, .int .i64 lb.length, .bool false, .int .i64 k, .slice (some ⟨ba, oa, none⟩) la.length ca, .int .i64 lb.length, .bool true, u15, u16, vs 0, vs 1, vs 2, vs 3, vs 4, vs 5, vs 6, vs 7, vs 8], []⟩) Try.mixed (by kernel_rfl) (fun vs => by kernel_rfl) (fun i hi v w1 w2 h1 h2 h => ?_) ?_ ?_
              · split at h <;> first | exact h | trivial
              · simp only [List.take_succ_cons, List.take_zero]
                refine ⟨?_, ?_, ?_, ?_, ?_, ?_, ?_, ?_, ?_, trivial⟩
                · intro vs w' hE hp
                  refine soft_plain rfl (soft_val rfl ?_)
                  go_simp
                · intro vs w' hE hp
                  refine soft_plain rfl (soft_val rfl ?_)
                  go_simp
                · intro vs w' hE hp
                  have p0 : vs 0 = _ := hp 0 (by kernel_rfl)
                  have p1 : vs 1 = _ := hp 1 (by kernel_rfl)
                  refine soft_plain rfl (soft_val rfl ?_)
                  go_simp
                · intro vs w' hE hp
                  have p2 : vs 2 = _ := hp 2 (by kernel_rfl)
                  have hc := hE.bcell
                  refine soft_plain rfl (soft_val rfl (C21.exec (HL1.out.ext hwa hE) rfl p2))
                · intro vs w' hE hp
                  refine soft_plain rfl (soft_val rfl ?_)
                  go_simp
                · intro vs w' hE hp
                  refine soft_plain rfl (soft_val rfl ?_)
                  go_simp
                · intro vs w' hE hp
                  have p4 : vs 4 = _ := hp 4 (by kernel_rfl)
                  have p5 : vs 5 = _ := hp 5 (by kernel_rfl)
                  refine soft_plain rfl (soft_val rfl ?_)
                  go_simp
                · intro vs w' hE hp
                  have p6 : vs 6 = _ := hp 6 (by kernel_rfl)
                  have hc := hE.bcell
                  refine soft_plain rfl (soft_val rfl (C21.exec (HL2.out.ext hwb hE) rfl p6))
                · intro vs w' hE hp
                  have p3 : vs 3 = _ := hp 3 (by kernel_rfl)
                  have p7 : vs 7 = _ := hp 7 (by kernel_rfl)
                  refine soft_plain rfl (soft_val rfl ?_)
                  go_simp
              · rintro vs w' hE hv
                have p0 : vs 0 = _ := hv 0 (by decide)
                have p1 : vs 1 = _ := hv 1 (by decide)
                have p2 : vs 2 = _ := hv 2 (by decide)
                have p3 : vs 3 = _ := hv 3 (by decide)
                have p4 : vs 4 = _ := hv 4 (by decide)
                have p5 : vs 5 = _ := hv 5 (by decide)
                have p6 : vs 6 = _ := hv 6 (by decide)
                have p7 : vs 7 = _ := hv 7 (by decide)
                have p8 : vs 8 = _ := hv 8 (by decide)
                simp only [List.drop_succ_cons, List.drop_zero, p0, p1, p2, p3, p4, p5, p6, p7, p8]
                clear hv p0 p1 p2 p3 p4 p5 p6 p7 p8
                have hE' := HE.out.trans hE
                go_wp2
                go_round
                case rel =>
                  refine ⟨k + 1, by omega, by go_num, ?_, hE'⟩
                  rw [List.take_succ_eq_append_getElem hlt, List.take_succ_eq_append_getElem (by omega), HX.out, HY.out, HT.out, HXY.out]
                case measure => simp [intOf]; omega
            · have hd : decide (x = y) = false := by simp [hxy]
              have HXY := Lib.hid hxy; clear hxy
              go_wp2
              refine wp_region_drawn 9 (fun i v W => match i with
                  | 0 => v = .slice (some ⟨ba, oa, none⟩) la.length ca
                  | 1 => v = .int .i64 k
                  | 2 => v = .pointer (some ⟨ba, o1, none⟩)
                  | 3 => v = .agg x.enc
                  | 4 => v = .slice (some ⟨bb, ob, none⟩) lb.length cb
                  | 5 => v = .int .i64 k
                  | 6 => v = .pointer (some ⟨bb, o2, none⟩)
                  | 7 => v = .agg y.enc
                  | 8 => v = .bool true
                  | _ => True) (fun vs => ⟨#[.slice (some ⟨ba, oa, none⟩) la.length ca, .slice (some ⟨bb, ob, none⟩) lb.length cb, undef, undef, u4, .int .i64 k, .slice (some ⟨ba, oa, none⟩) la.length ca, .int .i64 lb.length, .slice (some ⟨bb, ob, none⟩) lb.length cb, .int .i64 lb.length, .bool false, .int .i64 k, .slice (some ⟨ba, oa, none⟩) la.length ca, .int .i64 lb.length, .bool true, u15, u16, vs 0, vs 1, vs 2, vs 3, vs 4, vs 5, vs 6, vs 7, vs 8], []⟩) Try.mixed (by kernel_rfl) (fun vs => by kernel_rfl) (fun i hi v w1 w2 h1 h2 h => ?_) ?_ ?_
              · split at h <;> first | exact h | trivial
              · simp only [List.take_succ_cons, List.take_zero]
                refine ⟨?_, ?_, ?_, ?_, ?_, ?_, ?_, ?_, ?_, trivial⟩
                · intro vs w' hE hp
                  refine soft_plain rfl (soft_val rfl ?_)
                  go_simp
                · intro vs w' hE hp
                  refine soft_plain rfl (soft_val rfl ?_)
                  go_simp
                · intro vs w' hE hp
                  have p0 : vs 0 = _ := hp 0 (by kernel_rfl)
                  have p1 : vs 1 = _ := hp 1 (by kernel_rfl)
                  refine soft_plain rfl (soft_val rfl ?_)
                  go_simp
                · intro vs w' hE hp
                  have p2 : vs 2 = _ := hp 2 (by kernel_rfl)
                  have hc := hE.bcell
                  refine soft_plain rfl (soft_val rfl (C21.exec (HL1.out.ext hwa hE) rfl p2))
                · intro vs w' hE hp
                  refine soft_plain rfl (soft_val rfl ?_)
                  go_simp
                · intro vs w' hE hp
                  refine soft_plain rfl (soft_val rfl ?_)
                  go_simp
                · intro vs w' hE hp
                  have p4 : vs 4 = _ := hp 4 (by kernel_rfl)
                  have p5 : vs 5 = _ := hp 5 (by kernel_rfl)
                  refine soft_plain rfl (soft_val rfl ?_)
                  go_simp
                · intro vs w' hE hp
                  have p6 : vs 6 = _ := hp 6 (by kernel_rfl)
                  have hc := hE.bcell
                  refine soft_plain rfl (soft_val rfl (C21.exec (HL2.out.ext hwb hE) rfl p6))
                · intro vs w' hE hp
                  have p3 : vs 3 = _ := hp 3 (by kernel_rfl)
                  have p7 : vs 7 = _ := hp 7 (by kernel_rfl)
                  refine soft_plain rfl (soft_val rfl ?_)
                  go_simp
              · rintro vs w' hE hv
                have p0 : vs 0 = _ := hv 0 (by decide)
                have p1 : vs 1 = _ := hv 1 (by decide)
                have p2 : vs 2 = _ := hv 2 (by decide)
                have p3 : vs 3 = _ := hv 3 (by decide)
                have p4 : vs 4 = _ := hv 4 (by decide)
                have p5 : vs 5 = _ := hv 5 (by decide)
                have p6 : vs 6 = _ := hv 6 (by decide)
                have p7 : vs 7 = _ := hv 7 (by decide)
                have p8 : vs 8 = _ := hv 8 (by decide)
                simp only [List.drop_succ_cons, List.drop_zero, p0, p1, p2, p3, p4, p5, p6, p7, p8]
                clear hv p0 p1 p2 p3 p4 p5 p6 p7 p8
                have hE' := HE.out.trans hE
                go_wp2
                go_ret
                refine ⟨retb ?_, hE'⟩
                refine (decide_eq_false (fun e => HXY.out ?_)).symm
                rw [← HX.out, ← HY.out]
                subst e
                rfl
          · obtain rfl : k = la.length := by omega
            go_wp2
            go_ret
            refine ⟨retb ?_, hE⟩
            have h := HT.out
            rw [List.take_length, hlen, List.take_length] at h
            simp [h]
  · have hne : la ≠ lb := fun e => hlen (by rw [e])
    obtain ⟨pa, ca, rfl⟩ := ha.len
    obtain ⟨pb, cb, rfl⟩ := hb.len
    clear ha hb
    have hl : ¬ ((la.length : Int) = lb.length) := by omega
    go_enter Try.func15, Try.ntmps15
    go_wp2
    go_ret
    exact ⟨retb (by simp [hne]), Ext.refl _⟩
end Go.Proofs.Ythidakffgcjjiaa
