/- The walks of package key: what its functions return. -/
import Derived.Test.YthidakffgcjjiaaNames
namespace Go.Proofs.Ythidakffgcjjiaa
open Go.RowKit Go.Sort

set_option maxHeartbeats 400000 in
theorem dot_any (k : Ky) (w : World) :
    Calls Try.prog 157 #[.agg k.enc] w fun e w' => e = .returned (.int .u64 k.dot) ∧ Ext w w' := by
  go_enter Try.func157, Try.ntmps157
  go_wp2
  go_ret
  exact ⟨reti k.dot_bits, (by repeat (first | (with_reducible exact Ext.refl _) | (with_reducible refine Ext.alloc ?_ _) | (with_reducible refine Ext.grow ?_ _) | (with_reducible refine Ext.drewN ?_ _) | (with_reducible refine Ext.drew ?_)))⟩

set_option maxHeartbeats 400000 in
theorem words_any (k : Ky) (w : World) :
    Calls Try.prog 141 #[.agg k.enc] w fun e w' => e = .returned (.agg (W3 k.w0 k.item.num k.dot)) ∧ Ext w w' := by
  go_enter Try.func141, Try.ntmps141
  go_wp2_with fail
  have hb := k.w0_bits
  refine wp_region_drawn 14 (fun i v W => match i with
      | 0 => v = .pointer (some ⟨w.heap.size, 0, none⟩)
      | 1 => v = U8 k.sort
      | 2 => v = .int .u64 (IntKind.u64.wrap k.sort.toNat)
      | 3 => v = .int .u64 (IntKind.u64.wrap (IntKind.u64.wrap k.sort.toNat * 65536))
      | 4 => v = .pointer (some ⟨w.heap.size, 1, none⟩)
      | 5 => v = U16 k.cart
      | 6 => v = .int .u64 (IntKind.u64.wrap k.cart.toNat)
      | 7 => v = .int .u64 k.w0
      | 8 => v = .pointer (some ⟨w.heap.size, 2, none⟩)
      | 9 => v = .agg k.item.enc
      | 10 => v = .int .u64 k.item.num
      | 11 => v = .agg k.enc
      | 12 => v = .int .u64 k.dot
      | 13 => v = .agg (W3 k.w0 k.item.num k.dot)
      | _ => True) (fun vs => ⟨#[.agg k.enc, .pointer (some ⟨w.heap.size, 0, none⟩), .pointer (some ⟨w.heap.size + 1, 0, none⟩), vs 0, vs 1, vs 2, vs 3, vs 4, vs 5, vs 6, vs 7, vs 8, vs 9, vs 10, vs 11, vs 12, vs 13], []⟩) Try.mixed (by kernel_rfl) (fun vs => by kernel_rfl) (fun i hi v w1 w2 h1 h2 h => ?_) ?_ ?_
  · split at h <;> first | exact h | trivial
  · simp only [List.take_succ_cons, List.take_zero]
    refine ⟨?_, ?_, ?_, ?_, ?_, ?_, ?_, ?_, ?_, ?_, ?_, ?_, ?_, ?_, trivial⟩
    · intro vs w' hE hp
      refine soft_plain rfl (soft_val rfl ?_)
      go_simp
    · intro vs w' hE hp
      have p0 : vs 0 = _ := hp 0 (by kernel_rfl)
      have hc := hE.bcell
      refine soft_plain rfl (soft_val rfl ?_)
      go_simp
    · intro vs w' hE hp
      have p1 : vs 1 = _ := hp 1 (by kernel_rfl)
      refine soft_plain rfl (soft_val rfl ?_)
      go_simp
    · intro vs w' hE hp
      have p2 : vs 2 = _ := hp 2 (by kernel_rfl)
      refine soft_plain rfl (soft_val rfl ?_)
      go_simp
    · intro vs w' hE hp
      refine soft_plain rfl (soft_val rfl ?_)
      go_simp
    · intro vs w' hE hp
      have p4 : vs 4 = _ := hp 4 (by kernel_rfl)
      have hc := hE.bcell
      refine soft_plain rfl (soft_val rfl ?_)
      go_simp
    · intro vs w' hE hp
      have p5 : vs 5 = _ := hp 5 (by kernel_rfl)
      refine soft_plain rfl (soft_val rfl ?_)
      go_simp
    · intro vs w' hE hp
      have p3 : vs 3 = _ := hp 3 (by kernel_rfl)
      have p6 : vs 6 = _ := hp 6 (by kernel_rfl)
      refine soft_plain rfl (soft_val rfl ?_)
      go_simp
    · intro vs w' hE hp
      refine soft_plain rfl (soft_val rfl ?_)
      go_simp
    · intro vs w' hE hp
      have p8 : vs 8 = _ := hp 8 (by kernel_rfl)
      have hc := hE.bcell
      refine soft_plain rfl (soft_val rfl ?_)
      go_simp
    · intro vs w' hE hp
      have p9 : vs 9 = _ := hp 9 (by kernel_rfl)
      refine soft_plain rfl (soft_call ?_ ((number_any k.item _).mono fun e w'' ⟨he, hx⟩ => ⟨_, he, hx, rfl⟩))
      go_simp
    · intro vs w' hE hp
      have hc := hE.bcell
      refine soft_plain rfl (soft_val rfl ?_)
      go_simp
    · intro vs w' hE hp
      have p11 : vs 11 = _ := hp 11 (by kernel_rfl)
      refine soft_plain rfl (soft_call ?_ ((dot_any k _).mono fun e w'' ⟨he, hx⟩ => ⟨_, he, hx, rfl⟩))
      go_simp
    · intro vs w' hE hp
      have p7 : vs 7 = _ := hp 7 (by kernel_rfl)
      have p10 : vs 10 = _ := hp 10 (by kernel_rfl)
      have p12 : vs 12 = _ := hp 12 (by kernel_rfl)
      refine soft_plain rfl (soft_val rfl ?_)
      go_simp
  · rintro vs w' hE hv
    have p0 : vs 0 = _ := hv 0 (by decide)
    have p1 : vs 1 = _ := hv 1 (by decide)
    have p2 : vs 2 = _ := hv 2 (by decide)
    have p3 : vs 3 = _ := hv 3 (by decide)
    have p4 : vs 4 = _ := hv 4 (by decide)
    have p5 : vs 5 = _ := hv 5 (by decide)
    have p6 : vs 6 = _ := hv 6 (by decide)
    have p7 : vs 7 = _ := hv 7 (by decide)
    have p8 : vs 8 = _ := hv 8 (by decide)
    have p9 : vs 9 = _ := hv 9 (by decide)
    have p10 : vs 10 = _ := hv 10 (by decide)
    have p11 : vs 11 = _ := hv 11 (by decide)
    have p12 : vs 12 = _ := hv 12 (by decide)
    have p13 : vs 13 = _ := hv 13 (by decide)
    simp only [List.drop_succ_cons, List.drop_zero, p0, p1, p2, p3, p4, p5, p6, p7, p8, p9, p10, p11, p12, p13]
    clear hv p0 p1 p2 p3 p4 p5 p6 p7 p8 p9 p10 p11 p12 p13
    have hc := hE.bcell
    have hf := hE.bfrozen
    have hz : w.heap.size + 1 < w'.heap.size := by have := hE.size; simp at this; omega
    go_wp2
    exact bodyPost_ret (v := .agg (W3 k.w0 k.item.num k.dot)) (by simp [results, Try.results141, go_sem, hc, hf]) rfl ⟨rfl, (by repeat (first | (with_reducible exact Ext.refl _) | (with_reducible refine Ext.alloc ?_ _) | (with_reducible refine Ext.grow ?_ _) | (with_reducible refine Ext.drewN ?_ _) | (with_reducible refine Ext.drew ?_) | ((with_reducible refine Ext.setCell ?_ ?_ _); rotate_left; focus (first | assumption | (simp; done) | (simp; omega))) | (with_reducible refine Ext.trans ?_ hE)))⟩

def Ky.word (k : Ky) : Nat → Nat
  | 0 => k.w0
  | 1 => k.item.num
  | _ => k.dot
theorem Ky.lt_first {a b : Ky} (h : ¬ (a.w0 = b.w0 ∧ a.item.num = b.item.num ∧ a.dot = b.dot)) : ∃ j, j < 3 ∧ (∀ k, k < j → a.word k = b.word k) ∧ a.word j ≠ b.word j ∧ a.lt b = decide (a.word j < b.word j) := by
  by_cases h0 : a.w0 = b.w0
  · by_cases h1 : a.item.num = b.item.num
    · have h2 : a.dot ≠ b.dot := fun e => h ⟨h0, h1, e⟩
      refine ⟨2, by omega, fun k hk => ?_, h2, by simp [Ky.lt, h0, h1, Ky.word]⟩
      have : k = 0 ∨ k = 1 := by omega
      rcases this with rfl | rfl
      · exact h0
      · exact h1
    · refine ⟨1, by omega, fun k hk => ?_, h1, by simp [Ky.lt, h0, h1, Ky.word]⟩
      obtain rfl : k = 0 := by omega
      exact h0
  · exact ⟨0, by omega, fun k hk => by omega, h0, by simp [Ky.lt, h0, Ky.word]⟩

set_option maxHeartbeats 1000000 in
theorem kyless_any (a b : Ky) (w : World) :
    Calls Try.prog 118 #[.agg a.enc, .agg b.enc] w fun e w' => e = .returned (.bool (a.lt b)) ∧ Ext w w' := by
  go_enter Try.func118, Try.ntmps118
  go_wp2_with fail
  refine wp_region_drawn2 6 (fun i v W => match i with
    | 0 => v = .agg a.enc
    | 1 => v = .agg (W3 a.w0 a.item.num a.dot)
    | 2 => v = .agg b.enc
    | 3 => v = .agg (W3 b.w0 b.item.num b.dot)
    | 4 => ∃ B, v = .pointer (some ⟨B, 0, none⟩) ∧ w.heap.size ≤ B ∧ B < W.heap.size ∧ W.heap[B]? = some (.cells (W3 0 0 0) 118)
    | 5 => ∃ B, v = .pointer (some ⟨B, 0, none⟩) ∧ w.heap.size ≤ B ∧ B < W.heap.size ∧ W.heap[B]? = some (.cells (W3 0 0 0) 118)
    | _ => True) (fun i v W => match i with | 4 => v = .pointer (some ⟨W.heap.size, 0, none⟩) | 5 => v = .pointer (some ⟨W.heap.size, 0, none⟩) | _ => True)
    (fun vs => ⟨#[.agg a.enc, .agg b.enc, .pointer (some ⟨w.heap.size, 0, none⟩), .pointer (some ⟨w.heap.size + 1, 0, none⟩), .bool false, vs 4, vs 5, undef, vs 0, vs 1, vs 2, vs 3, undef, undef, undef, undef, undef, undef, undef, undef, undef, undef, undef, undef, undef, undef, undef, undef, undef, undef, undef], []⟩) Try.mixed (by kernel_rfl) (fun vs => by kernel_rfl) (fun i hi v w1 w2 h1 h2 h => ?_) ?_ ?_
  · split at h <;> first | exact h | trivial | exact (let ⟨B, q1, q2, q3, q4⟩ := h; ⟨B, q1, q2, Nat.lt_of_lt_of_le q3 h2.size, by rw [h2.heap q3]; exact q4⟩)
  · simp only [List.take_succ_cons, List.take_zero]
    refine ⟨?_, ?_, ?_, ?_, ?_, ?_, trivial⟩
    · intro vs w' hE hp
      have hc := hE.bcell
      refine soft_plain rfl (soft_val rfl ?_)
      go_simp
    · intro vs w' hE hp
      have p0 : vs 0 = _ := hp 0 (by kernel_rfl)
      refine soft_plain rfl (soft_call ?_ ((words_any a _).mono fun e w'' ⟨he, hx⟩ => ⟨_, he, hx, rfl⟩))
      go_simp
    · intro vs w' hE hp
      have hc := hE.bcell
      refine soft_plain rfl (soft_val rfl ?_)
      go_simp
    · intro vs w' hE hp
      have p2 : vs 2 = _ := hp 2 (by kernel_rfl)
      refine soft_plain rfl (soft_call ?_ ((words_any b _).mono fun e w'' ⟨he, hx⟩ => ⟨_, he, hx, rfl⟩))
      go_simp
    · intro vs w' hE hp
      have hz := hE.size
      refine soft_plain rfl (soft_val2 (v := .pointer (some ⟨w'.heap.size, 0, none⟩)) (w' := w'.alloc (.cells (W3 0 0 0) 118)) ?_ ((Ext.refl _).alloc _) ⟨_, rfl, by simp at hz; omega, by simp, heap_alloc_new _ _⟩ rfl)
      rw [← W3_zero]
      go_simp
    · intro vs w' hE hp
      have hz := hE.size
      refine soft_plain rfl (soft_val2 (v := .pointer (some ⟨w'.heap.size, 0, none⟩)) (w' := w'.alloc (.cells (W3 0 0 0) 118)) ?_ ((Ext.refl _).alloc _) ⟨_, rfl, by simp at hz; omega, by simp, heap_alloc_new _ _⟩ rfl)
      rw [← W3_zero]
      go_simp
  · intro vs w' hE hv hp
    have p0 : vs 0 = _ := hv 0 (by decide)
    have p1 : vs 1 = _ := hv 1 (by decide)
    have p2 : vs 2 = _ := hv 2 (by decide)
    have p3 : vs 3 = _ := hv 3 (by decide)
    obtain ⟨B4, p4, b4, c4, d4⟩ := hv 4 (by decide)
    obtain ⟨B5, p5, b5, c5, d5⟩ := hv 5 (by decide)
    have hne : B4 ≠ B5 := by
      rcases hp 4 5 (by decide) (by decide) (by decide) with ⟨W, _, ⟨B, q1, q2, q3, q4⟩, q5⟩ | ⟨W, _, ⟨B, q1, q2, q3, q4⟩, q5⟩
      · have e1 := q1.symm.trans p5
        have e2 := (p4.symm.trans q5)
        simp at e1 e2
        omega
      · have e1 := q1.symm.trans p4
        have e2 := (p5.symm.trans q5)
        simp at e1 e2
        omega
    simp only [List.drop_succ_cons, List.drop_zero, p0, p1, p2, p3, p4, p5]
    clear hv hp p0 p1 p2 p3 p4 p5
    have c4' : ∀ j, w'.cell? ⟨B4, j, none⟩ = (W3 0 0 0)[j]? := fun j => cell_of_row w' B4 j _ _ _ d4
    have f4 : ∀ j, w'.frozen? ⟨B4, j, none⟩ = false := fun j => frozen_of_row w' B4 j _ _ d4
    have c5' : ∀ j, w'.cell? ⟨B5, j, none⟩ = (W3 0 0 0)[j]? := fun j => cell_of_row w' B5 j _ _ _ d5
    have f5 : ∀ j, w'.frozen? ⟨B5, j, none⟩ = false := fun j => frozen_of_row w' B5 j _ _ d5
    have hne' : ¬ B5 = B4 := fun e => hne e.symm
    have he := eq118 a.w0 a.item.num a.dot b.w0 b.item.num b.dot (by have := a.w0_lt; omega) a.item.num_lt (by have := a.dot_lt; omega) (by have := b.w0_lt; omega) b.item.num_lt (by have := b.dot_lt; omega)
    clear d4 d5
    by_cases hall : a.w0 = b.w0 ∧ a.item.num = b.item.num ∧ a.dot = b.dot
    · have hd : decide (a.w0 = b.w0 ∧ a.item.num = b.item.num ∧ a.dot = b.dot) = true := decide_eq_true hall
      have HL : Hid (a.lt b = false) := Lib.hid (by simp [Ky.lt, hall])
      rw [hd] at he
      clear hall hd
      go_wp2
      go_ret
      exact ⟨retb HL.out.symm, (by repeat (first | (with_reducible exact Ext.refl _) | (with_reducible refine Ext.alloc ?_ _) | (with_reducible refine Ext.grow ?_ _) | (with_reducible refine Ext.drewN ?_ _) | (with_reducible refine Ext.drew ?_) | ((with_reducible refine Ext.setCell ?_ ?_ _); rotate_left; focus (first | assumption | (simp; done) | (simp; omega))) | (with_reducible refine Ext.trans ?_ hE)))⟩
    · have hd : decide (a.w0 = b.w0 ∧ a.item.num = b.item.num ∧ a.dot = b.dot) = false := decide_eq_false hall
      rw [hd] at he
      obtain ⟨j, hj3, hpre, hdiff, hlt⟩ := Ky.lt_first hall
      have HP := Lib.hid hpre; have HD := Lib.hid hdiff; have HL := Lib.hid hlt
      clear hpre hdiff hlt hall hd
      go_wp2_with fail
      go_loopw [7] (fun i wr => ∃ k : Nat, k ≤ j ∧ i = .int .i64 k ∧ Ext w wr ∧ (∀ k, k < 3 → wr.cell? ⟨B4, k, none⟩ = some (.int .u64 (a.word k : Nat))) ∧ (∀ k, k < 3 → wr.cell? ⟨B5, k, none⟩ = some (.int .u64 (b.word k : Nat)))) (fun i _ => j - (intOf i).toNat)
      case atStart =>
        refine ⟨0, Nat.zero_le _, rfl, (by repeat (first | (with_reducible exact Ext.refl _) | (with_reducible refine Ext.alloc ?_ _) | (with_reducible refine Ext.grow ?_ _) | (with_reducible refine Ext.drewN ?_ _) | (with_reducible refine Ext.drew ?_) | ((with_reducible refine Ext.setCell ?_ ?_ _); rotate_left; focus (first | assumption | (simp; done) | (simp; omega))) | (with_reducible refine Ext.trans ?_ hE))), ?_, ?_⟩
        · intro k hk
          have hk8 : k = 0 ∨ k = 1 ∨ k = 2 := by omega
          rcases hk8 with rfl | rfl | rfl <;> simp [go_sem, c4', c5', hne, hne', Ky.word]
        · intro k hk
          have hk8 : k = 0 ∨ k = 1 ∨ k = 2 := by omega
          rcases hk8 with rfl | rfl | rfl <;> simp [go_sem, c4', c5', hne, hne', Ky.word]
      case round =>
        obtain ⟨k, hk, rfl, hX, hx, hy⟩ := hrel
        have hxk := hx k (by omega)
        have hyk := hy k (by omega)
        have HX := Lib.hid hx; have HY := Lib.hid hy
        clear hx hy
        by_cases hkj : k < j
        · have e := HP.out k hkj
          rw [← e] at hyk
          have E := Lib.hid e; clear e
          go_wp2_with fail
          go_quiet (fail)
          go_wp2
          go_roundw
          case rel => exact ⟨k + 1, by omega, by go_num, hX.drewN _, HX.out, HY.out⟩
          case measure => simp [intOf]; omega
        · obtain rfl : k = j := by omega
          have hb : ((a.word k : Int) == (b.word k : Int)) = false := by have := HD.out; simp; omega
          go_wp2_with fail
          go_quiet (fail)
          go_wp2_with fail
          go_quiet (fail)
          go_wp2
          go_ret
          exact ⟨retb (by rw [HL.out]), (hX.drewN _).drewN _⟩
set_option maxRecDepth 100000 in
set_option maxHeartbeats 1000000 in
theorem kyright_any (k : Ky) (w : World) :
    Calls Try.prog 116 #[.agg k.enc] w fun e w' => e = .returned (.bool k.right) ∧ Ext w w' := by
  go_enter Try.func116, Try.ntmps116
  go_wp2_with (go_at_call 84; refine (right84 _ _).mono ?_; rintro e w' ⟨rfl, n, os, rfl⟩)
  all_goals (go_ret; refine ⟨retb ?_, (by repeat (first | (with_reducible exact Ext.refl _) | (with_reducible refine Ext.alloc ?_ _) | (with_reducible refine Ext.grow ?_ _) | (with_reducible refine Ext.drewN ?_ _) | (with_reducible refine Ext.drew ?_)))⟩)
  all_goals (first | (grind [Ky.right]; done) | (simp only [beq_iff_eq, beq_eq_false_iff_ne, ne_eq] at *; unfold Ky.right; rw [if_neg (by omega), if_neg (by omega), if_neg (by omega)]; done))

end Go.Proofs.Ythidakffgcjjiaa
