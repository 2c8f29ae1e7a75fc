/- The walk of atom.Right: it says what At.right says. -/
import Derived.Test.YthidakffgcjjiaaAtoms
namespace Go.Proofs.Ythidakffgcjjiaa
open Go.RowKit Go.Sort Go.Shelf

set_option maxRecDepth 100000 in
set_option maxHeartbeats 1000000 in
theorem atright_no (a : At) (hk : a.k.right = false) (w : World) :
    Calls Try.prog 79 #[.agg a.enc] w fun e w' => e = .returned (.bool false) ∧ Ext w w' := by
  have Hhk := Lib.hid hk; clear hk
  go_enter Try.func79, Try.ntmps79
  go_wp2_with fail
  refine wp_region_drawn 14 (fun i v W => match i with
      | 0 => v = .pointer (some ⟨w.heap.size, 0, none⟩)
      | 1 => v = .agg a.k.enc
      | 2 => v = .bool false
      | 3 => v = .bool false
      | 4 => v = undef
      | 5 => v = undef
      | 6 => v = undef
      | 7 => v = undef
      | 8 => v = undef
      | 9 => v = undef
      | 10 => v = undef
      | 11 => v = undef
      | 12 => v = .bool false
      | 13 => v = .bool false
      | _ => True) (fun vs => ⟨#[.agg a.enc, .pointer (some ⟨w.heap.size, 0, none⟩), vs 13, vs 0, vs 1, vs 2, vs 3, vs 4, vs 5, vs 6, vs 7, vs 8, vs 9, vs 10, vs 11, vs 12], []⟩) Try.mixed (by kernel_rfl) (fun vs => by kernel_rfl) (fun i hi v w1 w2 h1 h2 h => ?_) ?_ ?_
  · split at h <;> first | exact h | trivial
  · simp only [List.take_succ_cons, List.take_zero]
    refine ⟨?_, ?_, ?_, ?_, ?_, ?_, ?_, ?_, ?_, ?_, ?_, ?_, ?_, ?_, trivial⟩
    · intro vs w' hE hp
      refine soft_plain rfl (soft_val rfl ?_)
      go_simp
    · intro vs w' hE hp
      have p0 : vs 0 = _ := hp 0 (by kernel_rfl)
      have hc := hE.bcell
      refine soft_plain rfl (soft_val rfl ?_)
      go_simp
    · intro vs w' hE hp
      have p1 : vs 1 = _ := hp 1 (by kernel_rfl)
      refine soft_plain rfl (soft_call ?_ ((Hhk.out ▸ kyright_any a.k _).mono fun e w'' ⟨he, hx⟩ => ⟨_, he, hx, rfl⟩))
      go_simp
    · intro vs w' hE hp
      have p2 : vs 2 = _ := hp 2 (by kernel_rfl)
      refine soft_plain rfl (soft_val rfl ?_)
      go_simp
    · intro vs w' hE hp
      have p3 : vs 3 = _ := hp 3 (by kernel_rfl)
      refine soft_skip (by simp [Region.wanted, yielded, p3]) rfl
    · intro vs w' hE hp
      have p3 : vs 3 = _ := hp 3 (by kernel_rfl)
      refine soft_skip (by simp [Region.wanted, yielded, p3]) rfl
    · intro vs w' hE hp
      have p3 : vs 3 = _ := hp 3 (by kernel_rfl)
      have p5 : vs 5 = _ := hp 5 (by kernel_rfl)
      refine soft_skip (by simp [Region.wanted, yielded, p3]) rfl
    · intro vs w' hE hp
      have p3 : vs 3 = _ := hp 3 (by kernel_rfl)
      have p6 : vs 6 = _ := hp 6 (by kernel_rfl)
      have hc := hE.bcell
      refine soft_skip (by simp [Region.wanted, yielded, p3]) rfl
    · intro vs w' hE hp
      have p3 : vs 3 = _ := hp 3 (by kernel_rfl)
      have p4 : vs 4 = _ := hp 4 (by kernel_rfl)
      have p7 : vs 7 = _ := hp 7 (by kernel_rfl)
      refine soft_skip (by simp [Region.wanted, yielded, p3]) rfl
    · intro vs w' hE hp
      have p3 : vs 3 = _ := hp 3 (by kernel_rfl)
      refine soft_skip (by simp [Region.wanted, yielded, p3]) rfl
    · intro vs w' hE hp
      have p3 : vs 3 = _ := hp 3 (by kernel_rfl)
      have p9 : vs 9 = _ := hp 9 (by kernel_rfl)
      have hc := hE.bcell
      refine soft_skip (by simp [Region.wanted, yielded, p3]) rfl
    · intro vs w' hE hp
      have p3 : vs 3 = _ := hp 3 (by kernel_rfl)
      have p8 : vs 8 = _ := hp 8 (by kernel_rfl)
      have p10 : vs 10 = _ := hp 10 (by kernel_rfl)
      refine soft_skip (by simp [Region.wanted, yielded, p3]) rfl
    · intro vs w' hE hp
      have p3 : vs 3 = _ := hp 3 (by kernel_rfl)
      have p11 : vs 11 = _ := hp 11 (by kernel_rfl)
      refine soft_plain rfl (soft_val rfl ?_)
      go_simp
    · intro vs w' hE hp
      have p12 : vs 12 = _ := hp 12 (by kernel_rfl)
      refine soft_plain rfl (soft_val rfl ?_)
      go_simp
  · rintro vs w' hE hv
    have p0 : vs 0 = _ := hv 0 (by decide)
    have p1 : vs 1 = _ := hv 1 (by decide)
    have p2 : vs 2 = _ := hv 2 (by decide)
    have p3 : vs 3 = _ := hv 3 (by decide)
    have p4 : vs 4 = _ := hv 4 (by decide)
    have p5 : vs 5 = _ := hv 5 (by decide)
    have p6 : vs 6 = _ := hv 6 (by decide)
    have p7 : vs 7 = _ := hv 7 (by decide)
    have p8 : vs 8 = _ := hv 8 (by decide)
    have p9 : vs 9 = _ := hv 9 (by decide)
    have p10 : vs 10 = _ := hv 10 (by decide)
    have p11 : vs 11 = _ := hv 11 (by decide)
    have p12 : vs 12 = _ := hv 12 (by decide)
    have p13 : vs 13 = _ := hv 13 (by decide)
    simp only [List.drop_succ_cons, List.drop_zero, p0, p1, p2, p3, p4, p5, p6, p7, p8, p9, p10, p11, p12, p13]
    clear hv p0 p1 p2 p3 p4 p5 p6 p7 p8 p9 p10 p11 p12 p13
    go_wp2
    go_ret
    exact ⟨rfl, (by repeat (first | (with_reducible exact Ext.refl _) | (with_reducible refine Ext.alloc ?_ _) | (with_reducible refine Ext.grow ?_ _) | (with_reducible refine Ext.drewN ?_ _) | (with_reducible refine Ext.drew ?_) | ((with_reducible refine Ext.setCell ?_ ?_ _); rotate_left; focus (first | assumption | (simp; done) | (simp; omega))) | (with_reducible refine Ext.trans ?_ hE)))⟩

set_option maxRecDepth 100000 in
set_option maxHeartbeats 1000000 in
theorem atright_yes (a : At) (g : Nat) (r : Bool) (hk : a.k.right = true) (eg : ∀ args w, (callFunc g args).run Try.prog w = .ok (.enter g args) w)
    (hidx : ∀ B w, (Instr.index 124 (.agg (rulesV B)) (U8 a.k.sort)).run Try.prog w = .ok (.func (.func g) #[] #[.pointer (some ⟨B, 0, none⟩)]) w)
    (hg : ∀ B w, B < w.heap.size → w.cell? ⟨B, 0, none⟩ = some (.func (.func 134) #[] #[]) → Calls Try.prog g #[.agg a.v.enc, .pointer (some ⟨B, 0, none⟩)] w fun e w' => e = .returned (.bool r) ∧ Ext w w') (w : World) :
    Calls Try.prog 79 #[.agg a.enc] w fun e w' => e = .returned (.bool r) ∧ Ext w w' := by
  have Hhk := Lib.hid hk; clear hk
  have Hg := Lib.hid hg; clear hg
  go_enter Try.func79, Try.ntmps79
  go_wp2_with fail
  refine wp_region_drawn 14 (fun i v W => match i with
      | 0 => v = .pointer (some ⟨w.heap.size, 0, none⟩)
      | 1 => v = .agg a.k.enc
      | 2 => v = .bool true
      | 3 => v = .bool true
      | 4 => ∃ B, v = .agg (rulesV B) ∧ B < W.heap.size ∧ W.cell? ⟨B, 0, none⟩ = some (.func (.func 134) #[] #[])
      | 5 => v = .pointer (some ⟨w.heap.size, 0, none⟩)
      | 6 => v = .pointer (some ⟨w.heap.size, 0, none⟩)
      | 7 => v = U8 a.k.sort
      | 8 => ∃ B, v = .func (.func g) #[] #[.pointer (some ⟨B, 0, none⟩)] ∧ B < W.heap.size ∧ W.cell? ⟨B, 0, none⟩ = some (.func (.func 134) #[] #[])
      | 9 => v = .pointer (some ⟨w.heap.size, 12, none⟩)
      | 10 => v = .agg a.v.enc
      | 11 => v = .bool r
      | 12 => v = .bool r
      | 13 => v = .bool r
      | _ => True) (fun vs => ⟨#[.agg a.enc, .pointer (some ⟨w.heap.size, 0, none⟩), vs 13, vs 0, vs 1, vs 2, vs 3, vs 4, vs 5, vs 6, vs 7, vs 8, vs 9, vs 10, vs 11, vs 12], []⟩) Try.mixed (by kernel_rfl) (fun vs => by kernel_rfl) (fun i hi v w1 w2 h1 h2 h => ?_) ?_ ?_
  · split at h <;> first | exact h | trivial | exact (let ⟨B, q1, q2, q3⟩ := h; ⟨B, q1, Nat.lt_of_lt_of_le q2 h2.size, by rw [h2.cell q2]; exact q3⟩)
  · simp only [List.take_succ_cons, List.take_zero]
    refine ⟨?_, ?_, ?_, ?_, ?_, ?_, ?_, ?_, ?_, ?_, ?_, ?_, ?_, ?_, trivial⟩
    · intro vs w' hE hp
      refine soft_plain rfl (soft_val rfl ?_)
      go_simp
    · intro vs w' hE hp
      have p0 : vs 0 = _ := hp 0 (by kernel_rfl)
      have hc := hE.bcell
      refine soft_plain rfl (soft_val rfl ?_)
      go_simp
    · intro vs w' hE hp
      have p1 : vs 1 = _ := hp 1 (by kernel_rfl)
      refine soft_plain rfl (soft_call ?_ ((Hhk.out ▸ kyright_any a.k _).mono fun e w'' ⟨he, hx⟩ => ⟨_, he, hx, rfl⟩))
      go_simp
    · intro vs w' hE hp
      have p2 : vs 2 = _ := hp 2 (by kernel_rfl)
      refine soft_plain rfl (soft_val rfl ?_)
      go_simp
    · intro vs w' hE hp
      have p3 : vs 3 = _ := hp 3 (by kernel_rfl)
      refine soft_want (by simp [Region.wanted, yielded, p3]) (soft_call ?_ ((rules_any _).mono fun e w'' ⟨B, he, hx, hb, hb', hcb⟩ => ⟨_, he, hx, B, rfl, hb', hcb⟩))
      go_simp
    · intro vs w' hE hp
      have p3 : vs 3 = _ := hp 3 (by kernel_rfl)
      refine soft_want (by simp [Region.wanted, yielded, p3]) (soft_val rfl ?_)
      go_simp
    · intro vs w' hE hp
      have p3 : vs 3 = _ := hp 3 (by kernel_rfl)
      have p5 : vs 5 = _ := hp 5 (by kernel_rfl)
      refine soft_want (by simp [Region.wanted, yielded, p3]) (soft_val rfl ?_)
      go_simp
    · intro vs w' hE hp
      have p3 : vs 3 = _ := hp 3 (by kernel_rfl)
      have p6 : vs 6 = _ := hp 6 (by kernel_rfl)
      have hc := hE.bcell
      refine soft_want (by simp [Region.wanted, yielded, p3]) (soft_val rfl ?_)
      go_simp
    · intro vs w' hE hp
      have p3 : vs 3 = _ := hp 3 (by kernel_rfl)
      have p4 : _ := hp 4 (by kernel_rfl)
      have p7 : vs 7 = _ := hp 7 (by kernel_rfl)
      obtain ⟨B, q1, q2, q3⟩ := p4
      refine soft_want (by simp [Region.wanted, yielded, p3]) (soft_val ⟨B, rfl, q2, q3⟩ ?_)
      clear q3
      go_simp
    · intro vs w' hE hp
      have p3 : vs 3 = _ := hp 3 (by kernel_rfl)
      refine soft_want (by simp [Region.wanted, yielded, p3]) (soft_val rfl ?_)
      go_simp
    · intro vs w' hE hp
      have p3 : vs 3 = _ := hp 3 (by kernel_rfl)
      have p9 : vs 9 = _ := hp 9 (by kernel_rfl)
      have hc := hE.bcell
      refine soft_want (by simp [Region.wanted, yielded, p3]) (soft_val rfl ?_)
      go_simp
    · intro vs w' hE hp
      have p3 : vs 3 = _ := hp 3 (by kernel_rfl)
      have p8 : _ := hp 8 (by kernel_rfl)
      have p10 : vs 10 = _ := hp 10 (by kernel_rfl)
      obtain ⟨B, q1, q2, q3⟩ := p8
      refine soft_want (by simp [Region.wanted, yielded, p3]) (soft_call ?_ ((Hg.out B _ q2 q3).mono fun e w'' ⟨he, hx⟩ => ⟨_, he, hx, rfl⟩))
      clear q3
      go_simp
    · intro vs w' hE hp
      have p3 : vs 3 = _ := hp 3 (by kernel_rfl)
      have p11 : vs 11 = _ := hp 11 (by kernel_rfl)
      refine soft_plain rfl (soft_val rfl ?_)
      go_simp
    · intro vs w' hE hp
      have p12 : vs 12 = _ := hp 12 (by kernel_rfl)
      refine soft_plain rfl (soft_val rfl ?_)
      go_simp
  · rintro vs w' hE hv
    have p0 : vs 0 = _ := hv 0 (by decide)
    have p1 : vs 1 = _ := hv 1 (by decide)
    have p2 : vs 2 = _ := hv 2 (by decide)
    have p3 : vs 3 = _ := hv 3 (by decide)
    have p4 : _ := hv 4 (by decide)
    have p5 : vs 5 = _ := hv 5 (by decide)
    have p6 : vs 6 = _ := hv 6 (by decide)
    have p7 : vs 7 = _ := hv 7 (by decide)
    have p8 : _ := hv 8 (by decide)
    have p9 : vs 9 = _ := hv 9 (by decide)
    have p10 : vs 10 = _ := hv 10 (by decide)
    have p11 : vs 11 = _ := hv 11 (by decide)
    have p12 : vs 12 = _ := hv 12 (by decide)
    have p13 : vs 13 = _ := hv 13 (by decide)
    simp only [List.drop_succ_cons, List.drop_zero, p0, p1, p2, p3, p5, p6, p7, p9, p10, p11, p12, p13]
    clear hv p0 p1 p2 p3 p5 p6 p7 p9 p10 p11 p12 p13
    go_wp2
    go_ret
    exact ⟨rfl, (by repeat (first | (with_reducible exact Ext.refl _) | (with_reducible refine Ext.alloc ?_ _) | (with_reducible refine Ext.grow ?_ _) | (with_reducible refine Ext.drewN ?_ _) | (with_reducible refine Ext.drew ?_) | ((with_reducible refine Ext.setCell ?_ ?_ _); rotate_left; focus (first | assumption | (simp; done) | (simp; omega))) | (with_reducible refine Ext.trans ?_ hE)))⟩

theorem Ky.right_sort {k : Ky} (h : k.right = true) : k.sort.toNat = 1 ∨ k.sort.toNat = 2 ∨ k.sort.toNat = 3 ∨ k.sort.toNat = 4 := by
  by_cases h4 : k.sort.toNat = 4
  · exact .inr (.inr (.inr h4))
  · by_cases h1 : k.sort.toNat = 1
    · exact .inl h1
    · by_cases h23 : k.sort.toNat = 2 ∨ k.sort.toNat = 3
      · rcases h23 with h | h
        · exact .inr (.inl h)
        · exact .inr (.inr (.inl h))
      · unfold Ky.right at h
        rw [if_neg h4, if_neg h1, if_neg h23] at h
        cases h

theorem atright_any (a : At) (w : World) :
    Calls Try.prog 79 #[.agg a.enc] w fun e w' => e = .returned (.bool a.right) ∧ Ext w w' := by
  cases hk : a.k.right
  · have h := atright_no a hk w
    have e : a.right = false := by simp [At.right, hk]
    rw [e]; exact h
  · rcases Ky.right_sort hk with hs | hs | hs | hs
    · have e : a.right = a.v.tag := by simp [At.right, hk, hs]
      have hv : U8 a.k.sort = .int .u8 1 := by rw [U8, hs]; rfl
      rw [e]
      exact atright_yes a 138 a.v.tag hk (enters_of Try.func138 (by kernel_rfl) rfl) (fun B w => by rw [hv]; kernel_rfl) (fun B w h1 h2 => tag_any a.v B w h1 h2) w
    · have e : a.right = a.v.half := by simp [At.right, hk, hs]
      have hv : U8 a.k.sort = .int .u8 2 := by rw [U8, hs]; rfl
      rw [e]
      exact atright_yes a 136 a.v.half hk (enters_of Try.func136 (by kernel_rfl) rfl) (fun B w => by rw [hv]; kernel_rfl) (fun B w h1 h2 => half_any a.v B w h1 h2) w
    · have e : a.right = a.v.half := by simp [At.right, hk, hs]
      have hv : U8 a.k.sort = .int .u8 3 := by rw [U8, hs]; rfl
      rw [e]
      exact atright_yes a 136 a.v.half hk (enters_of Try.func136 (by kernel_rfl) rfl) (fun B w => by rw [hv]; kernel_rfl) (fun B w h1 h2 => half_any a.v B w h1 h2) w
    · have e : a.right = a.v.note := by simp [At.right, hk, hs]
      have hv : U8 a.k.sort = .int .u8 4 := by rw [U8, hs]; rfl
      rw [e]
      exact atright_yes a 139 a.v.note hk (enters_of Try.func139 (by kernel_rfl) rfl) (fun B w => by rw [hv]; kernel_rfl) (fun B w h1 h2 => note_any a.v B w h1 h2) w

end Go.Proofs.Ythidakffgcjjiaa
