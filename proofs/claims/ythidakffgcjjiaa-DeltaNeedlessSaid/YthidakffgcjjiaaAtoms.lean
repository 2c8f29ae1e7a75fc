/- The walks of package atom: what its functions return. -/
import Derived.Test.YthidakffgcjjiaaKeys
import Derived.Laws.EntriesVeiled
namespace Go.Proofs.Ythidakffgcjjiaa
open Go.RowKit Go.Sort Go.Shelf

theorem ret2 {j k : IntKind} {a b c d : Int} (h : a = c) (h' : b = d) : Ending.returned (.tuple #[.int j a, .int k b]) = .returned (.tuple #[.int j c, .int k d]) := by rw [h, h']

set_option maxRecDepth 100000 in
set_option maxHeartbeats 1000000 in
theorem unstamp_any (x : UInt64) (w : World) :
    Calls Try.prog 156 #[U64 x] w fun e w' => e = .returned (.tuple #[.int .u32 ((x.toNat / 256 % 4294967296 : Nat) : Int), .int .u8 ((x.toNat % 256 : Nat) : Int)]) ∧ w = w' := by
  go_enter Try.func156, Try.ntmps156
  go_wp2
  go_ret2
  exact ⟨ret2 (by simp) (by simp), rfl⟩

set_option maxRecDepth 100000 in
set_option maxHeartbeats 1000000 in
theorem stamped_any (x : UInt64) (w : World) :
    Calls Try.prog 140 #[U64 x] w fun e w' => e = .returned (.int .i64 (stampErr x.toNat)) ∧ w = w' := by
  go_enter Try.func140, Try.ntmps140
  go_wp2_with (go_at_call 156; refine (unstamp_any _ _).mono ?_; rintro e w' ⟨rfl, rfl⟩)
  all_goals (go_ret; refine ⟨reti ?_, rfl⟩)
  all_goals ((try simp only [beq_iff_eq, beq_eq_false_iff_ne, ne_eq] at *); unfold stampErr; (first | rw [if_pos (by omega)] | rw [if_neg (by omega), if_pos (by omega)] | rw [if_neg (by omega), if_neg (by omega)]))

set_option maxRecDepth 100000 in
set_option maxHeartbeats 1000000 in
theorem bare_any (v : Vl) (w : World) :
    Calls Try.prog 134 #[.agg v.enc] w fun e w' => e = .returned (.bool v.bare) ∧ Ext w w' := by
  go_enter Try.func134, Try.ntmps134
  go_wp2_with (go_at_call 135; refine (some_any _ _).mono ?_; rintro e w' ⟨rfl, n, os, rfl⟩)
  go_ret
  exact ⟨retb (by simp [Vl.bare]), (by repeat (first | (with_reducible exact Ext.refl _) | (with_reducible refine Ext.alloc ?_ _) | (with_reducible refine Ext.grow ?_ _) | (with_reducible refine Ext.drewN ?_ _) | (with_reducible refine Ext.drew ?_)))⟩

set_option maxRecDepth 100000 in
set_option maxHeartbeats 1000000 in
theorem half_any (v : Vl) (B : Nat) (w : World) (hB : B < w.heap.size) (hc : w.cell? ⟨B, 0, none⟩ = some (.func (.func 134) #[] #[])) :
    Calls Try.prog 136 #[.agg v.enc, .pointer (some ⟨B, 0, none⟩)] w fun e w' => e = .returned (.bool v.half) ∧ Ext w w' := by
  go_enter Try.func136, Try.ntmps136
  go_wp2_with (go_at_call 134; refine (bare_any _ _).mono ?_; rintro e w' ⟨rfl, n, os, rfl⟩)
  all_goals (go_ret; refine ⟨retb ?_, (by repeat (first | (with_reducible exact Ext.refl _) | (with_reducible refine Ext.alloc ?_ _) | (with_reducible refine Ext.grow ?_ _) | (with_reducible refine Ext.drewN ?_ _) | (with_reducible refine Ext.drew ?_)))⟩)
  all_goals (first | (grind [Vl.half]; done) | (simp only [beq_iff_eq, beq_eq_false_iff_ne, ne_eq] at *; simp [Vl.half]; omega) | (simp_all [Vl.half]; done) | (simp_all [Vl.half]; omega))

set_option maxRecDepth 100000 in
set_option maxHeartbeats 1000000 in
theorem tag_any (v : Vl) (B : Nat) (w : World) (hB : B < w.heap.size) (hc : w.cell? ⟨B, 0, none⟩ = some (.func (.func 134) #[] #[])) :
    Calls Try.prog 138 #[.agg v.enc, .pointer (some ⟨B, 0, none⟩)] w fun e w' => e = .returned (.bool v.tag) ∧ Ext w w' := by
  go_enter Try.func138, Try.ntmps138
  go_wp2_with (go_at_call 134; refine (bare_any _ _).mono ?_; rintro e w' ⟨rfl, n, os, rfl⟩)
  all_goals (go_ret; refine ⟨retb ?_, (by repeat (first | (with_reducible exact Ext.refl _) | (with_reducible refine Ext.alloc ?_ _) | (with_reducible refine Ext.grow ?_ _) | (with_reducible refine Ext.drewN ?_ _) | (with_reducible refine Ext.drew ?_)))⟩)
  all_goals (first | (grind [Vl.tag]; done) | (simp only [beq_iff_eq, beq_eq_false_iff_ne, ne_eq] at *; simp [Vl.tag]; omega) | (simp_all [Vl.tag]; done) | (simp_all [Vl.tag]; omega))

set_option maxRecDepth 100000 in
set_option maxHeartbeats 1000000 in
theorem note_any (v : Vl) (B : Nat) (w : World) (hB : B < w.heap.size) (hc : w.cell? ⟨B, 0, none⟩ = some (.func (.func 134) #[] #[])) :
    Calls Try.prog 139 #[.agg v.enc, .pointer (some ⟨B, 0, none⟩)] w fun e w' => e = .returned (.bool v.note) ∧ Ext w w' := by
  go_enter Try.func139, Try.ntmps139
  go_wp2_with (first | (go_at_call 134; refine (bare_any _ _).mono ?_; rintro e w' ⟨rfl, n, os, rfl⟩) | (go_at_call 140; refine (stamped_any _ _).mono ?_; rintro e w' ⟨rfl, rfl⟩) | (go_at_call 84; refine (right84 _ _).mono ?_; rintro e w' ⟨rfl, n, os, rfl⟩))
  all_goals (go_ret; refine ⟨retb ?_, (by repeat (first | (with_reducible exact Ext.refl _) | (with_reducible refine Ext.alloc ?_ _) | (with_reducible refine Ext.grow ?_ _) | (with_reducible refine Ext.drewN ?_ _) | (with_reducible refine Ext.drew ?_)))⟩)
  all_goals (first | (grind [Vl.note]; done) | (simp only [beq_iff_eq, beq_eq_false_iff_ne, ne_eq] at *; simp [Vl.note]; omega) | (simp_all [Vl.note]; done) | (simp_all [Vl.note]; omega))

set_option maxRecDepth 100000 in
set_option maxHeartbeats 1000000 in
theorem none_any (v : Vl) (w : World) :
    Calls Try.prog 137 #[.agg v.enc] w fun e w' => e = .returned (.bool false) ∧ Ext w w' := by
  go_enter Try.func137, Try.ntmps137
  go_wp2
  go_ret
  exact ⟨rfl, (by repeat (first | (with_reducible exact Ext.refl _) | (with_reducible refine Ext.alloc ?_ _) | (with_reducible refine Ext.grow ?_ _) | (with_reducible refine Ext.drewN ?_ _) | (with_reducible refine Ext.drew ?_)))⟩

def rulesV (B : Nat) : Array Value := #[.func (.func 137) #[] #[], .func (.func 138) #[] #[.pointer (some ⟨B, 0, none⟩)], .func (.func 136) #[] #[.pointer (some ⟨B, 0, none⟩)], .func (.func 136) #[] #[.pointer (some ⟨B, 0, none⟩)], .func (.func 139) #[] #[.pointer (some ⟨B, 0, none⟩)]]
set_option maxRecDepth 100000 in
set_option maxHeartbeats 1000000 in
theorem rules_any (w : World) :
    Calls Try.prog 117 #[] w fun e w' => ∃ B, e = .returned (.agg (rulesV B)) ∧ Ext w w' ∧ w.heap.size ≤ B ∧ B < w'.heap.size ∧ w'.cell? ⟨B, 0, none⟩ = some (.func (.func 134) #[] #[]) := by
  go_enter Try.func117, Try.ntmps117
  go_wp2
  refine bodyPost_ret (v := .agg (rulesV (w.heap.size + 1))) (by simp [results, Try.results117, go_sem, rulesV]) rfl ⟨_, rfl, (by repeat (first | (with_reducible exact Ext.refl _) | (with_reducible refine Ext.alloc ?_ _) | (with_reducible refine Ext.grow ?_ _) | (with_reducible refine Ext.drewN ?_ _) | (with_reducible refine Ext.drew ?_) | ((with_reducible refine Ext.setCell ?_ ?_ _); rotate_left; focus (first | assumption | (simp; done) | (simp; omega))) | (with_reducible refine Ext.trans ?_ hE))), by omega, by simp, by simp [go_sem]⟩

set_option maxRecDepth 100000 in
set_option maxHeartbeats 1000000 in
theorem over_any (x y : Vl) (w : World) :
    Calls Try.prog 74 #[.agg x.enc, .agg y.enc] w fun e w' => e = .returned (.bool (x.over y)) ∧ Ext w w' := by
  go_enter Try.func74, Try.ntmps74
  go_wp2_with (go_at_call 113; refine (nmless_any _ _ _).mono ?_; rintro e w' ⟨rfl, n, os, rfl⟩)
  all_goals (go_ret; refine ⟨retb ?_, (by repeat (first | (with_reducible exact Ext.refl _) | (with_reducible refine Ext.alloc ?_ _) | (with_reducible refine Ext.grow ?_ _) | (with_reducible refine Ext.drewN ?_ _) | (with_reducible refine Ext.drew ?_)))⟩)
  all_goals (first | (grind [Vl.over]; done) | (simp only [beq_iff_eq, beq_eq_false_iff_ne, ne_eq] at *; simp [Vl.over]; omega) | (simp_all [Vl.over]; done) | (simp_all [Vl.over]; omega))

set_option maxRecDepth 100000 in
set_option maxHeartbeats 1000000 in
theorem more_any (x y : Vl) (w : World) :
    Calls Try.prog 90 #[.agg x.enc, .agg y.enc] w fun e w' => e = .returned (.agg (x.more y).enc) ∧ Ext w w' := by
  cases h : x.over y <;> have H := Lib.hid h <;> clear h
  all_goals
    go_enter Try.func90, Try.ntmps90
    go_wp2_with (go_at_call 74; refine (over_any _ _ _).mono ?_; rintro e w' ⟨rfl, n, os, rfl⟩; rw [H.out])
  · exact bodyPost_ret (v := .agg y.enc) (by simp [results, Try.results90, go_sem]) rfl ⟨by rw [Vl.more, H.out]; rfl, (by repeat (first | (with_reducible exact Ext.refl _) | (with_reducible refine Ext.alloc ?_ _) | (with_reducible refine Ext.grow ?_ _) | (with_reducible refine Ext.drewN ?_ _) | (with_reducible refine Ext.drew ?_) | ((with_reducible refine Ext.setCell ?_ ?_ _); rotate_left; focus (first | assumption | (simp; done) | (simp; omega))) | (with_reducible refine Ext.trans ?_ hE)))⟩
  · exact bodyPost_ret (v := .agg x.enc) (by simp [results, Try.results90, go_sem]) rfl ⟨by rw [Vl.more, H.out]; rfl, (by repeat (first | (with_reducible exact Ext.refl _) | (with_reducible refine Ext.alloc ?_ _) | (with_reducible refine Ext.grow ?_ _) | (with_reducible refine Ext.drewN ?_ _) | (with_reducible refine Ext.drew ?_) | ((with_reducible refine Ext.setCell ?_ ?_ _); rotate_left; focus (first | assumption | (simp; done) | (simp; omega))) | (with_reducible refine Ext.trans ?_ hE)))⟩

set_option maxRecDepth 100000 in
set_option maxHeartbeats 1000000 in
theorem order_any (a b : At) (w : World) :
    Calls Try.prog 80 #[.agg a.enc, .agg b.enc] w fun e w' => e = .returned (.int .i64 (a.k.ord b.k)) ∧ Ext w w' := by
  go_enter Try.func80, Try.ntmps80
  go_wp2_with (go_at_call 118; refine (kyless_any _ _ _).mono ?_; rintro e w' ⟨rfl, n, os, rfl⟩)
  all_goals (go_ret; refine ⟨reti ?_, (by repeat (first | (with_reducible exact Ext.refl _) | (with_reducible refine Ext.alloc ?_ _) | (with_reducible refine Ext.grow ?_ _) | (with_reducible refine Ext.drewN ?_ _) | (with_reducible refine Ext.drew ?_)))⟩)
  all_goals (simp_all [Ky.ord])
end Go.Proofs.Ythidakffgcjjiaa
