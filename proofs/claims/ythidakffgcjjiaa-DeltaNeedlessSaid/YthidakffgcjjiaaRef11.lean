/- The document's differences: walks of its layer 11. -/
import Derived.Test.YthidakffgcjjiaaRef10
import Derived.Test.YthidakffgcjjiaaDelta
import Derived.Test.YthidakffgcjjiaaPartLaws
namespace Go.Proofs.Ythidakffgcjjiaa
open Go.RowKit Go.Sort

theorem isame_next {la lb : List Int} {k : Nat} {x y : Int} (h : la.take k = lb.take k) (hx : la[k]? = some x) (hy : lb[k]? = some y) (e : x = y) : la.take (k + 1) = lb.take (k + 1) := by
  rw [take_snoc? hx, take_snoc? hy, h, e]
theorem isame_not {la lb : List Int} {k : Nat} {x y : Int} (hx : la[k]? = some x) (hy : lb[k]? = some y) (e : ¬ x = y) : false = decide (la = lb) := by
  symm; apply decide_eq_false; intro h; subst h; rw [hx] at hy; exact e (Option.some.inj hy)
theorem isame_len {la lb : List Int} (h : ¬ (la.length : Int) = (lb.length : Int)) : false = decide (la = lb) := by
  symm; apply decide_eq_false; intro e; subst e; exact h rfl
theorem isame_end {la lb : List Int} {k : Nat} (h : la.take k = lb.take k) (hk : k = la.length) (hl : (la.length : Int) = (lb.length : Int)) : true = decide (la = lb) := by
  symm; apply decide_eq_true
  rw [hk, List.take_length, show la.length = lb.length by omega, List.take_length] at h
  exact h
set_option maxRecDepth 100000 in
set_option maxHeartbeats 1000000 in
theorem c_isame (va vb : Value) (la lb : List Int) (w : World) (ha : Sl w va la) (hb : Sl w vb lb) :
    Calls Try.prog 40 #[va, vb] w fun e w' => e = .returned (.bool (decide (la = lb))) ∧ Bw w w' := by
  have hS := St.begin (w := w) (pins := pinSl va la :: pinSl vb lb :: []) ⟨ha, hb, trivial⟩
  refine enter (n := 26) Try.func40 rfl rfl (Nat.le_of_ble_eq_true rfl) (l := [(0, va), (1, vb)]) rfl ?_
  refine WP.seq ?_
  refine WP.region ?_
  refine WL.op (v := .bool false) rfl rfl rfl (Ex.assign rfl rfl) ?_
  refine WL.nil ?_
  refine then_normal ?_
  refine WP.seq ?_
  refine WP.seq ?_
  refine WP.region ?_
  refine WL.op (v := va) rfl rfl rfl (Ex.move rfl rfl) ?_
  have hl840 : la.length < 4611686018427387904 := (hS.mem (.head _) : Sl _ _ _).lt
  refine WL.op (v := .int .i64 (la.length : Int)) rfl rfl rfl (Ex.lenSl (l := la) ⟨_, under43⟩ rfl rfl (hS.mem (.head _))) ?_
  refine WL.op (v := vb) rfl rfl rfl (Ex.move rfl rfl) ?_
  have hl841 : lb.length < 4611686018427387904 := (hS.mem (.tail _ (.head _)) : Sl _ _ _).lt
  refine WL.op (v := .int .i64 (lb.length : Int)) rfl rfl rfl (Ex.lenSl (l := lb) ⟨_, under43⟩ rfl rfl (hS.mem (.tail _ (.head _)))) ?_
  refine WL.op (v := .bool (!decide ((la.length : Int) = (lb.length : Int)))) rfl rfl rfl (Ex.ne rfl rfl rfl) ?_
  refine WL.nil ?_
  refine then_normal ?_
  refine WP.cond (b := !decide ((la.length : Int) = (lb.length : Int))) rfl (fun hc842 => ?_) (fun hc842 => ?_)
  ·
    have hc842' : ¬ ((la.length : Int) = (lb.length : Int)) := by simpa using hc842
    refine WP.seq ?_
    refine WP.region ?_
    refine WL.op (v := .bool false) rfl rfl rfl (Ex.assign rfl rfl) ?_
    refine WL.nil ?_
    refine then_normal ?_
    refine WP.ret ?_
    refine then_ret (?_)
    refine rt1 (v := .bool false) rfl rfl ?_
    exact ⟨retb (by first | exact isame_len (by assumption) | exact isame_end heq (by omega) (by omega)), hS.bw⟩
  ·
    have hc842' : (la.length : Int) = (lb.length : Int) := by simpa using hc842
    refine WP.skip ?_
    refine then_normal ?_
    refine WP.seq ?_
    refine WP.seq ?_
    refine WP.region ?_
    refine WL.op (v := .int .i64 0) rfl rfl rfl (Ex.assign rfl rfl) ?_
    refine WL.nil ?_
    refine then_normal ?_
    refine WP.block ?_
    refine WP.loop (fun (μ : Nat) a W => ∃ (k : Nat), ∃ (l0 : Fr), a = fr 26 [] ([(0, va), (1, vb), (5, .int .i64 (k : Int))] ++ l0) ∧ μ = la.length - k ∧ k ≤ la.length ∧ St w ([]) (pinSl va la :: pinSl vb lb :: []) W ∧ (la.take k = lb.take k)) id _ ⟨0, _, fr_keep ⟨rfl, rfl, rfl, trivial⟩, rfl, by omega, hS, rfl⟩ ?_
    rintro μ a W843 ⟨k, l0, rfl, rfl, hk, hS, heq⟩
    refine WP.seq ?_
    refine WP.seq ?_
    refine WP.region ?_
    refine WL.op (v := .int .i64 (k : Int)) rfl rfl rfl (Ex.move rfl rfl) ?_
    refine WL.op (v := va) rfl rfl rfl (Ex.move rfl rfl) ?_
    refine WL.op (v := .int .i64 (la.length : Int)) rfl rfl rfl (Ex.lenSl (l := la) ⟨_, under43⟩ rfl rfl (hS.mem (.head _))) ?_
    refine WL.op (v := .bool (decide ((k : Int) < (la.length : Int)))) rfl rfl rfl (Ex.lt rfl rfl rfl) ?_
    refine WL.nil ?_
    refine then_normal ?_
    refine WP.cond (b := decide ((k : Int) < (la.length : Int))) rfl (fun hc844 => ?_) (fun hc844 => ?_)
    ·
      have hc844' : (k : Int) < (la.length : Int) := by simpa using hc844
      refine WP.skip ?_
      refine then_normal ?_
      refine WP.seq ?_
      refine WP.block ?_
      refine WP.seq ?_
      obtain ⟨b845, po846, x847, hx848, hi849, hS⟩ := hS.elem (α := Int) (k := k) (.head _) under43 tySz3 (by omega)
      obtain ⟨b850, po851, x852, hx853, hi854, hS⟩ := hS.elem (α := Int) (k := k) (.tail _ (.tail _ (.head _))) under43 tySz3 (by omega)
      refine WP.drawL 9 [(fun u_ _ => u_ = va), (fun u_ _ => u_ = .int .i64 (k : Int)), (fun u_ _ => u_ = .pointer (some ⟨b845, po846, none⟩)), (fun u_ _ => u_ = .int .i64 x847), (fun u_ _ => u_ = vb), (fun u_ _ => u_ = .int .i64 (k : Int)), (fun u_ _ => u_ = .pointer (some ⟨b850, po851, none⟩)), (fun u_ _ => u_ = .int .i64 x852), (fun u_ _ => u_ = .bool (!decide (x847 = x852)))] (fun vs => (25, vs 8) :: (24, vs 7) :: (23, vs 6) :: (22, vs 5) :: (21, vs 4) :: (20, vs 3) :: (19, vs 2) :: (18, vs 1) :: (17, vs 0) :: _) ⟨fun _ _ _ _ h => h, fun _ _ _ _ h => h, fun _ _ _ _ h => h, fun _ _ _ _ h => h, fun _ _ _ _ h => h, fun _ _ _ _ h => h, fun _ _ _ _ h => h, fun _ _ _ _ h => h, fun _ _ _ _ h => h, trivial⟩ (by kernel_rfl) (fun _ => rfl) ⟨?_, ?_, ?_, ?_, ?_, ?_, ?_, ?_, ?_, trivial⟩ ?_
      ·
        intro vs W hE hp
        exact dr_plain rfl (dr_ex (v := va) (Ex.move rfl rfl) (Bw.refl _) rfl)
      ·
        intro vs W hE hp
        exact dr_plain rfl (dr_ex (v := .int .i64 (k : Int)) (Ex.move rfl rfl) (Bw.refl _) rfl)
      ·
        intro vs W hE hp
        have p0 := hp 0 (by kernel_rfl)
        simp only [List.getD_cons_zero, List.getD_cons_succ] at p0
        have p1 := hp 1 (by kernel_rfl)
        simp only [List.getD_cons_zero, List.getD_cons_succ] at p1
        exact dr_plain rfl (dr_ex (v := .pointer (some ⟨b845, po846, none⟩)) (Ex.indexC hi849 rfl p0 p1) (Bw.refl _) rfl)
      ·
        intro vs W hE hp
        have p2 := hp 2 (by kernel_rfl)
        simp only [List.getD_cons_zero, List.getD_cons_succ] at p2
        exact dr_plain rfl (dr_ex (v := .int .i64 x847) (Ex.load1 tyOne3 rfl p2 (Reads.sub (cs := [.int .i64 x847]) ((hS.ext hE).get 1 rfl) 0 (ds := [.int .i64 x847]) rfl)) (Bw.refl _) rfl)
      ·
        intro vs W hE hp
        exact dr_plain rfl (dr_ex (v := vb) (Ex.move rfl rfl) (Bw.refl _) rfl)
      ·
        intro vs W hE hp
        exact dr_plain rfl (dr_ex (v := .int .i64 (k : Int)) (Ex.move rfl rfl) (Bw.refl _) rfl)
      ·
        intro vs W hE hp
        have p4 := hp 4 (by kernel_rfl)
        simp only [List.getD_cons_zero, List.getD_cons_succ] at p4
        have p5 := hp 5 (by kernel_rfl)
        simp only [List.getD_cons_zero, List.getD_cons_succ] at p5
        exact dr_plain rfl (dr_ex (v := .pointer (some ⟨b850, po851, none⟩)) (Ex.indexC hi854 rfl p4 p5) (Bw.refl _) rfl)
      ·
        intro vs W hE hp
        have p6 := hp 6 (by kernel_rfl)
        simp only [List.getD_cons_zero, List.getD_cons_succ] at p6
        exact dr_plain rfl (dr_ex (v := .int .i64 x852) (Ex.load1 tyOne3 rfl p6 (Reads.sub (cs := [.int .i64 x852]) ((hS.ext hE).get 0 rfl) 0 (ds := [.int .i64 x852]) rfl)) (Bw.refl _) rfl)
      ·
        intro vs W hE hp
        have p3 := hp 3 (by kernel_rfl)
        simp only [List.getD_cons_zero, List.getD_cons_succ] at p3
        have p7 := hp 7 (by kernel_rfl)
        simp only [List.getD_cons_zero, List.getD_cons_succ] at p7
        exact dr_plain rfl (dr_ex (v := .bool (!decide (x847 = x852))) (Ex.ne rfl p3 p7) (Bw.refl _) rfl)
      intro vs W855 hE hv
      have hS0 := hS; replace hS := hS.ext hE
      have p0 : vs 0 = va := hv 0 (by decide)
      have p1 : vs 1 = .int .i64 (k : Int) := hv 1 (by decide)
      have p2 : vs 2 = .pointer (some ⟨b845, po846, none⟩) := hv 2 (by decide)
      have p3 : vs 3 = .int .i64 x847 := hv 3 (by decide)
      have p4 : vs 4 = vb := hv 4 (by decide)
      have p5 : vs 5 = .int .i64 (k : Int) := hv 5 (by decide)
      have p6 : vs 6 = .pointer (some ⟨b850, po851, none⟩) := hv 6 (by decide)
      have p7 : vs 7 = .int .i64 x852 := hv 7 (by decide)
      have p8 : vs 8 = .bool (!decide (x847 = x852)) := hv 8 (by decide)
      refine WL.keep (k := [(17, va), (18, .int .i64 (k : Int)), (19, .pointer (some ⟨b845, po846, none⟩)), (20, .int .i64 x847), (21, vb), (22, .int .i64 (k : Int)), (23, .pointer (some ⟨b850, po851, none⟩)), (24, .int .i64 x852), (25, .bool (!decide (x847 = x852)))]) ⟨p0, p1, p2, p3, p4, p5, p6, p7, p8, trivial⟩ ?_
      refine WL.nil ?_
      refine then_normal ?_
      refine WP.cond (b := !decide (x847 = x852)) rfl (fun hc856 => ?_) (fun hc856 => ?_)
      ·
        have hc856' : ¬ (x847 = x852) := by simpa using hc856
        refine WP.seq ?_
        refine WP.region ?_
        refine WL.op (v := .bool false) rfl rfl rfl (Ex.assign rfl rfl) ?_
        refine WL.nil ?_
        refine then_normal ?_
        refine WP.ret ?_
        refine inBlock_ret (then_ret (then_ret (inBlock_ret (then_ret (?_)))))
        refine rt1 (v := .bool false) rfl rfl ?_
        exact ⟨retb (isame_not hx848 hx853 hc856'), hS.bw⟩
      ·
        have hc856' : x847 = x852 := by simpa using hc856
        refine WP.skip ?_
        refine inBlock_normal ?_
        refine then_normal ?_
        refine WP.region ?_
        refine WL.op (v := .int .i64 (k : Int)) rfl rfl rfl (Ex.move rfl rfl) ?_
        refine WL.op (v := .int .i64 ((k + 1 : Nat) : Int)) rfl rfl rfl (Ex.add rfl rfl rfl (wrap_succ (by omega))) ?_
        refine WL.op (v := .int .i64 ((k + 1 : Nat) : Int)) rfl rfl rfl (Ex.assign rfl rfl) ?_
        refine WL.nil ?_
        refine then_normal ?_
        exact ⟨_, ⟨k + 1, _, fr_keep ⟨rfl, rfl, rfl, trivial⟩, rfl, by omega, hS.drop 0 2, isame_next heq hx848 hx853 hc856'⟩, by simp only [id]; omega⟩
    ·
      have hc844' : ¬ ((k : Int) < (la.length : Int)) := by simpa using hc844
      refine WP.exit ?_
      refine then_exit (then_exit (inBlock_same (?_)))
      refine then_normal ?_
      refine WP.seq ?_
      refine WP.region ?_
      refine WL.op (v := .bool true) rfl rfl rfl (Ex.assign rfl rfl) ?_
      refine WL.nil ?_
      refine then_normal ?_
      refine WP.ret ?_
      refine ?_
      refine rt1 (v := .bool true) rfl rfl ?_
      exact ⟨retb (by first | exact isame_len (by assumption) | exact isame_end heq (by omega) (by omega)), hS.bw⟩
set_option maxRecDepth 100000 in
set_option maxHeartbeats 1000000 in
theorem c_light (v : Value) (rs : List Sv) (ls : List (List At)) (w : World) (hv : Sl w v rs) (hs : SS w rs ls) (hlen : rs.length = ls.length) :
    Calls Try.prog 37 #[v] w fun e w' => e = .returned (.bool (lightAt ls)) ∧ Bw w w' := by
  have hS := St.begin (w := w) (pins := pinSl v rs :: pinSS rs ls :: []) ⟨hv, hs, trivial⟩
  refine enter (n := 23) Try.func37 rfl rfl (Nat.le_of_ble_eq_true rfl) (l := [(0, v)]) rfl ?_
  refine WP.seq ?_
  refine WP.region ?_
  refine WL.op (v := .bool false) rfl rfl rfl (Ex.assign rfl rfl) ?_
  refine WL.nil ?_
  refine then_normal ?_
  refine WP.seq ?_
  refine WP.seq ?_
  refine WP.region ?_
  refine WL.op (v := .int .i64 0) rfl rfl rfl (Ex.assign rfl rfl) ?_
  refine WL.nil ?_
  refine then_normal ?_
  refine WP.block ?_
  refine WP.loop (fun (μ : Nat) a W => ∃ (k : Nat), ∃ (l0 : Fr), a = fr 23 [] ([(0, v), (3, .int .i64 (k : Int))] ++ l0) ∧ μ = rs.length - k ∧ k ≤ rs.length ∧ St w ([]) (pinSl v rs :: pinSS rs ls :: []) W ∧ ((ls.take k).all (fun l => decide (l.length ≤ 30)) = true)) id _ ⟨0, _, fr_keep ⟨rfl, rfl, trivial⟩, rfl, by omega, hS, rfl⟩ ?_
  rintro μ a W857 ⟨k, l0, rfl, rfl, hk, hS, hall⟩
  refine WP.seq ?_
  refine WP.seq ?_
  refine WP.region ?_
  refine WL.op (v := .int .i64 (k : Int)) rfl rfl rfl (Ex.move rfl rfl) ?_
  refine WL.op (v := v) rfl rfl rfl (Ex.move rfl rfl) ?_
  have hl858 : rs.length < 4611686018427387904 := (hS.mem (.head _) : Sl _ _ _).lt
  refine WL.op (v := .int .i64 (rs.length : Int)) rfl rfl rfl (Ex.lenSl (l := rs) ⟨_, under42⟩ rfl rfl (hS.mem (.head _))) ?_
  refine WL.op (v := .bool (decide ((k : Int) < (rs.length : Int)))) rfl rfl rfl (Ex.lt rfl rfl rfl) ?_
  refine WL.op (v := .bool (decide ((k : Int) < (rs.length : Int)))) rfl rfl rfl (Ex.move rfl rfl) ?_
  rcases Bool.eq_false_or_eq_true (decide ((k : Int) < (rs.length : Int))) with hg859 | hg859
  ·
    have hg859' : (k : Int) < (rs.length : Int) := by simpa using hg859
    refine WL.on rfl rfl rfl (congrArg Value.bool hg859) ?_
    refine WL.op (v := .int .i64 (k : Int)) rfl rfl rfl (Ex.move rfl rfl) ?_
    refine WL.on rfl rfl rfl (congrArg Value.bool hg859) ?_
    refine WL.op (v := .bool (decide ((k : Int) < 9))) rfl rfl rfl (Ex.lt rfl rfl rfl) ?_
    refine WL.op (v := .bool (decide ((k : Int) < 9))) rfl rfl rfl (Ex.pickT rfl (congrArg Value.bool hg859) rfl) ?_
    refine WL.nil ?_
    refine then_normal ?_
    refine WP.cond (b := decide ((k : Int) < 9)) rfl (fun hc860 => ?_) (fun hc860 => ?_)
    ·
      have hc860' : (k : Int) < 9 := by simpa using hc860
      refine WP.skip ?_
      refine then_normal ?_
      refine WP.seq ?_
      refine WP.block ?_
      refine WP.seq ?_
      refine WP.region ?_
      refine WL.op (v := v) rfl rfl rfl (Ex.move rfl rfl) ?_
      refine WL.op (v := .int .i64 (k : Int)) rfl rfl rfl (Ex.move rfl rfl) ?_
      obtain ⟨b861, po862, x863, hx864, hi865, hS⟩ := hS.elem (α := Sv) (k := k) (.head _) under42 tySz22 (by omega)
      refine WL.op (v := .pointer (some ⟨b861, po862, none⟩)) rfl rfl rfl (Ex.indexC hi865 rfl rfl rfl) ?_
      obtain ⟨li866, hli867⟩ : ∃ li, ls[k]? = some li := ⟨ls[k]'(by omega), by simp⟩
      replace hS := hS.inner (.tail _ (.tail _ (.head _))) hx864 hli867
      refine WL.op (v := x863.v) rfl rfl rfl (Ex.load1 tyOne22 rfl rfl (Reads.sub (cs := [x863.v]) (hS.get 1 rfl) 0 (ds := [x863.v]) rfl)) ?_
      have hl868 : li866.length < 4611686018427387904 := (hS.mem (.head _) : Sl _ _ _).lt
      refine WL.op (v := .int .i64 (li866.length : Int)) rfl rfl rfl (Ex.lenSl (l := li866) ⟨_, under22⟩ rfl rfl (hS.mem (.head _))) ?_
      refine WL.op (v := .bool (decide (30 < (li866.length : Int)))) rfl rfl rfl (Ex.gt rfl rfl rfl) ?_
      refine WL.nil ?_
      refine then_normal ?_
      refine WP.cond (b := decide (30 < (li866.length : Int))) rfl (fun hc869 => ?_) (fun hc869 => ?_)
      ·
        have hc869' : 30 < (li866.length : Int) := by simpa using hc869
        refine WP.seq ?_
        refine WP.region ?_
        refine WL.op (v := .bool false) rfl rfl rfl (Ex.assign rfl rfl) ?_
        refine WL.nil ?_
        refine then_normal ?_
        refine WP.ret ?_
        refine inBlock_ret (then_ret (then_ret (inBlock_ret (then_ret (?_)))))
        refine rt1 (v := .bool false) rfl rfl ?_
        exact ⟨retb (light_no hli867 (by assumption)), hS.bw⟩
      ·
        have hc869' : ¬ (30 < (li866.length : Int)) := by simpa using hc869
        refine WP.skip ?_
        refine inBlock_normal ?_
        refine then_normal ?_
        refine WP.region ?_
        refine WL.op (v := .int .i64 (k : Int)) rfl rfl rfl (Ex.move rfl rfl) ?_
        refine WL.op (v := .int .i64 ((k + 1 : Nat) : Int)) rfl rfl rfl (Ex.add rfl rfl rfl (wrap_succ (by omega))) ?_
        refine WL.op (v := .int .i64 ((k + 1 : Nat) : Int)) rfl rfl rfl (Ex.assign rfl rfl) ?_
        refine WL.nil ?_
        refine then_normal ?_
        exact ⟨_, ⟨k + 1, _, fr_keep ⟨rfl, rfl, trivial⟩, rfl, by omega, hS.drop 0 2, all_next hli867 hall (by simp; omega)⟩, by simp only [id]; omega⟩
    ·
      have hc860' : ¬ ((k : Int) < 9) := by simpa using hc860
      refine WP.exit ?_
      refine then_exit (then_exit (inBlock_same (?_)))
      refine then_normal ?_
      refine WP.seq ?_
      refine WP.region ?_
      refine WL.op (v := v) rfl rfl rfl (Ex.move rfl rfl) ?_
      refine WL.op (v := .int .i64 (rs.length : Int)) rfl rfl rfl (Ex.lenSl (l := rs) ⟨_, under42⟩ rfl rfl (hS.mem (.head _))) ?_
      refine WL.op (v := .bool (decide ((rs.length : Int) ≤ 8))) rfl rfl rfl (Ex.le rfl rfl rfl) ?_
      refine WL.op (v := .bool (decide ((rs.length : Int) ≤ 8))) rfl rfl rfl (Ex.assign rfl rfl) ?_
      refine WL.nil ?_
      refine then_normal ?_
      refine WP.ret ?_
      refine ?_
      refine rt1 (v := .bool (decide ((rs.length : Int) ≤ 8))) rfl rfl ?_
      exact ⟨retb (light_end hlen (by omega) hk hall), hS.bw⟩
  ·
    have hg859' : ¬ ((k : Int) < (rs.length : Int)) := by simpa using hg859
    refine WL.off (b' := false) rfl rfl rfl rfl rfl rfl (congrArg Value.bool hg859) rfl ?_
    refine WL.off (b' := false) rfl rfl rfl rfl rfl rfl (congrArg Value.bool hg859) rfl ?_
    refine WL.op (v := .bool false) rfl rfl rfl (Ex.pickF rfl (congrArg Value.bool hg859) rfl) ?_
    refine WL.nil ?_
    refine then_normal ?_
    refine WP.condF rfl ?_
    refine WP.exit ?_
    refine then_exit (then_exit (inBlock_same (?_)))
    refine then_normal ?_
    refine WP.seq ?_
    refine WP.region ?_
    refine WL.op (v := v) rfl rfl rfl (Ex.move rfl rfl) ?_
    refine WL.op (v := .int .i64 (rs.length : Int)) rfl rfl rfl (Ex.lenSl (l := rs) ⟨_, under42⟩ rfl rfl (hS.mem (.head _))) ?_
    refine WL.op (v := .bool (decide ((rs.length : Int) ≤ 8))) rfl rfl rfl (Ex.le rfl rfl rfl) ?_
    refine WL.op (v := .bool (decide ((rs.length : Int) ≤ 8))) rfl rfl rfl (Ex.assign rfl rfl) ?_
    refine WL.nil ?_
    refine then_normal ?_
    refine WP.ret ?_
    refine ?_
    refine rt1 (v := .bool (decide ((rs.length : Int) ≤ 8))) rfl rfl ?_
    exact ⟨retb (light_end hlen (by omega) hk hall), hS.bw⟩
set_option maxRecDepth 100000 in
set_option maxHeartbeats 1000000 in
theorem c_without (v : Value) (i : Nat) (rs : List Sv) (ls : List (List At)) (w : World) (hv : Sl w v rs) (hs : SS w rs ls) (hlen : rs.length = ls.length) (hl2 : ls.flatten.length ≤ 1048576) :
    Calls Try.prog 91 #[v, .int .i64 (i : Int)] w fun e w' => ∃ v', e = .returned v' ∧ Bw w w' ∧ Sl w' v' (normAt (ls.eraseIdx i).flatten) ∧ New w v' := by
  have hS := St.begin (w := w) (pins := pinSl v rs :: pinSS rs ls :: []) ⟨hv, hs, trivial⟩
  refine enter (n := 23) Try.func91 rfl rfl (Nat.le_of_ble_eq_true rfl) (l := [(0, v), (1, .int .i64 (i : Int))]) rfl ?_
  refine WP.seq ?_
  refine WP.region ?_
  refine WL.op (v := .slice none 0 0) rfl rfl rfl (Ex.assign rfl rfl) ?_
  refine WL.nil ?_
  refine then_normal ?_
  refine WP.seq ?_
  refine WP.region ?_
  refine WL.op (v := .slice none 0 0) rfl rfl rfl (Ex.assign rfl rfl) ?_
  refine WL.nil ?_
  refine then_normal ?_
  refine WP.seq ?_
  refine WP.seq ?_
  refine WP.region ?_
  refine WL.op (v := .int .i64 0) rfl rfl rfl (Ex.assign rfl rfl) ?_
  refine WL.nil ?_
  refine then_normal ?_
  refine WP.block ?_
  replace hS := hS.pinNil (α := At)
  refine WP.loop (fun (μ : Nat) a W => ∃ (k : Nat), ∃ (vo : Value), ∃ (d : List At), ∃ (l0 : Fr), a = fr 23 [] ([(0, v), (1, .int .i64 (i : Int)), (4, .slice none 0 0), (6, .int .i64 (k : Int)), (5, vo)] ++ l0) ∧ μ = rs.length - k ∧ k ≤ rs.length ∧ St w ([]) (pinSl vo d :: pinSl v rs :: pinSS rs ls :: []) W ∧ (d = woF ls i k) ∧ (New w vo) ∧ (d.length ≤ (ls.take k).flatten.length)) id _ ⟨0, _, _, _, fr_keep ⟨rfl, rfl, rfl, rfl, rfl, trivial⟩, rfl, by omega, hS, rfl, (fun b hb => by cases hb), (Nat.zero_le _)⟩ ?_
  rintro μ a W870 ⟨k, vo, d, l0, rfl, rfl, hk, hS, hd, hn, hdl⟩
  refine WP.seq ?_
  refine WP.seq ?_
  refine WP.region ?_
  refine WL.op (v := .int .i64 (k : Int)) rfl rfl rfl (Ex.move rfl rfl) ?_
  refine WL.op (v := v) rfl rfl rfl (Ex.move rfl rfl) ?_
  have hl871 : rs.length < 4611686018427387904 := (hS.mem (.tail _ (.head _)) : Sl _ _ _).lt
  refine WL.op (v := .int .i64 (rs.length : Int)) rfl rfl rfl (Ex.lenSl (l := rs) ⟨_, under42⟩ rfl rfl (hS.mem (.tail _ (.head _)))) ?_
  refine WL.op (v := .bool (decide ((k : Int) < (rs.length : Int)))) rfl rfl rfl (Ex.lt rfl rfl rfl) ?_
  refine WL.nil ?_
  refine then_normal ?_
  refine WP.cond (b := decide ((k : Int) < (rs.length : Int))) rfl (fun hc872 => ?_) (fun hc872 => ?_)
  ·
    have hc872' : (k : Int) < (rs.length : Int) := by simpa using hc872
    refine WP.skip ?_
    refine then_normal ?_
    refine WP.seq ?_
    refine WP.block ?_
    refine WP.seq ?_
    refine WP.region ?_
    refine WL.op (v := .int .i64 (k : Int)) rfl rfl rfl (Ex.move rfl rfl) ?_
    refine WL.op (v := .int .i64 (i : Int)) rfl rfl rfl (Ex.move rfl rfl) ?_
    refine WL.op (v := .bool (!decide ((k : Int) = (i : Int)))) rfl rfl rfl (Ex.ne rfl rfl rfl) ?_
    refine WL.nil ?_
    refine then_normal ?_
    refine WP.cond (b := !decide ((k : Int) = (i : Int))) rfl (fun hc873 => ?_) (fun hc873 => ?_)
    ·
      have hc873' : ¬ ((k : Int) = (i : Int)) := by simpa using hc873
      refine WP.region ?_
      refine WL.op (v := vo) rfl rfl rfl (Ex.move rfl rfl) ?_
      refine WL.op (v := v) rfl rfl rfl (Ex.move rfl rfl) ?_
      refine WL.op (v := .int .i64 (k : Int)) rfl rfl rfl (Ex.move rfl rfl) ?_
      obtain ⟨b874, po875, x876, hx877, hi878, hS⟩ := hS.elem (α := Sv) (k := k) (.tail _ (.head _)) under42 tySz22 (by omega)
      refine WL.op (v := .pointer (some ⟨b874, po875, none⟩)) rfl rfl rfl (Ex.indexC hi878 rfl rfl rfl) ?_
      obtain ⟨li879, hli880⟩ : ∃ li, ls[k]? = some li := ⟨ls[k]'(by omega), by simp⟩
      replace hS := hS.inner (.tail _ (.tail _ (.tail _ (.head _)))) hx877 hli880
      have hll881 : li879.length ≤ 1048576 := Nat.le_trans (get_flatten_le hli880) (hl2)
      refine WL.op (v := x876.v) rfl rfl rfl (Ex.load1 tyOne22 rfl rfl (Reads.sub (cs := [x876.v]) (hS.get 1 rfl) 0 (ds := [x876.v]) rfl)) ?_
      have hdb : d.length ≤ 1048576 := Nat.le_trans hdl (Nat.le_trans (take_flat_le _ _) hl2)
      refine WL.call rfl rfl rfl (enterS eg17 (args := [vo, x876.v]) rfl rfl rfl rfl) (c_rjoin _ _ d li879 _ (hS.mem (.tail _ (.tail _ (.head _)))) (hS.mem (.head _)) (by first | omega | (simp; done) | (simp; omega)) (by first | omega | (simp; done) | (simp; omega))) ?_
      rintro e W884 ⟨v882, rfl, hB, hv', hn'⟩
      have hN883 : New w v882 := fun b hb => Nat.le_trans hS.bw.size (hn' b hb)
      replace hS := hS.newPin hB (pinSl v882 (normAt (d ++ li879))) hv' hn'
      refine ⟨_, rfl, ?_⟩
      have hq885 := normAt_len2 d li879
      refine WL.op (v := v882) rfl rfl rfl (Ex.assign rfl rfl) ?_
      refine WL.nil ?_
      refine inBlock_normal ?_
      refine then_normal ?_
      refine WP.region ?_
      refine WL.op (v := .int .i64 (k : Int)) rfl rfl rfl (Ex.move rfl rfl) ?_
      refine WL.op (v := .int .i64 ((k + 1 : Nat) : Int)) rfl rfl rfl (Ex.add rfl rfl rfl (wrap_succ (by omega))) ?_
      refine WL.op (v := .int .i64 ((k + 1 : Nat) : Int)) rfl rfl rfl (Ex.assign rfl rfl) ?_
      refine WL.nil ?_
      refine then_normal ?_
      exact ⟨_, ⟨k + 1, v882, _, _, fr_keep ⟨rfl, rfl, rfl, rfl, rfl, trivial⟩, rfl, by omega, (hS.repin 0 ⟨(.head _), (.tail _ (.tail _ (.tail _ (.tail _ (.head _))))), (.tail _ (.tail _ (.tail _ (.tail _ (.tail _ (.head _)))))), trivial⟩), wo_join hd (by assumption) hli880, hN883, (by rw [flat_at hli880, List.length_append]; omega)⟩, by simp only [id]; omega⟩
    ·
      have hc873' : (k : Int) = (i : Int) := by simpa using hc873
      refine WP.skip ?_
      refine inBlock_normal ?_
      refine then_normal ?_
      refine WP.region ?_
      refine WL.op (v := .int .i64 (k : Int)) rfl rfl rfl (Ex.move rfl rfl) ?_
      refine WL.op (v := .int .i64 ((k + 1 : Nat) : Int)) rfl rfl rfl (Ex.add rfl rfl rfl (wrap_succ (by omega))) ?_
      refine WL.op (v := .int .i64 ((k + 1 : Nat) : Int)) rfl rfl rfl (Ex.assign rfl rfl) ?_
      refine WL.nil ?_
      refine then_normal ?_
      exact ⟨_, ⟨k + 1, vo, d, _, fr_keep ⟨rfl, rfl, rfl, rfl, rfl, trivial⟩, rfl, by omega, hS, wo_skip hd (by assumption), hn, (Nat.le_trans hdl (take_flat_mono _ _))⟩, by simp only [id]; omega⟩
  ·
    have hc872' : ¬ ((k : Int) < (rs.length : Int)) := by simpa using hc872
    refine WP.exit ?_
    refine then_exit (then_exit (inBlock_same (?_)))
    refine then_normal ?_
    refine WP.seq ?_
    refine WP.region ?_
    refine WL.op (v := vo) rfl rfl rfl (Ex.move rfl rfl) ?_
    refine WL.op (v := vo) rfl rfl rfl (Ex.assign rfl rfl) ?_
    refine WL.nil ?_
    refine then_normal ?_
    refine WP.ret ?_
    refine ?_
    refine rt1 (v := vo) rfl rfl ?_
    rw [show k = ls.length by omega, wo_norm] at hd
    exact ⟨_, rfl, hS.bw, (by rw [← hd]; exact hS.mem (.head _)), hn⟩
set_option maxRecDepth 100000 in
set_option maxHeartbeats 1000000 in
theorem c_rirredundant (v : Value) (rs : List Sv) (ls : List (List At)) (w : World) (hv : Sl w v rs) (hs : SS w rs ls) (hlen : rs.length = ls.length) (hc : Capd v) (hl : rs.length ≤ 1048576) (hl2 : ls.flatten.length ≤ 1048576) :
    Calls Try.prog 39 #[v] w fun e w' => e = .returned (.bool (irredAt ls)) ∧ Bw w w' := by
  have hS := St.begin (w := w) (pins := pinSl v rs :: pinSS rs ls :: []) ⟨hv, hs, trivial⟩
  refine enter (n := 18) Try.func39 rfl rfl (Nat.le_of_ble_eq_true rfl) (l := [(0, v)]) rfl ?_
  refine WP.seq ?_
  refine WP.region ?_
  refine WL.op (v := .bool false) rfl rfl rfl (Ex.assign rfl rfl) ?_
  refine WL.nil ?_
  refine then_normal ?_
  refine WP.seq ?_
  refine WP.seq ?_
  refine WP.region ?_
  refine WL.op (v := .int .i64 0) rfl rfl rfl (Ex.assign rfl rfl) ?_
  refine WL.nil ?_
  refine then_normal ?_
  refine WP.block ?_
  refine WP.loop (fun (μ : Nat) a W => ∃ (k : Nat), ∃ (l0 : Fr), a = fr 18 [] ([(0, v), (3, .int .i64 (k : Int))] ++ l0) ∧ μ = rs.length - k ∧ k ≤ rs.length ∧ St w ([]) (pinSl v rs :: pinSS rs ls :: []) W ∧ ((List.range k).all (fun i => !spareAt ls ls i) = true)) id _ ⟨0, _, fr_keep ⟨rfl, rfl, trivial⟩, rfl, by omega, hS, rfl⟩ ?_
  rintro μ a W886 ⟨k, l0, rfl, rfl, hk, hS, hall⟩
  refine WP.seq ?_
  refine WP.seq ?_
  refine WP.region ?_
  refine WL.op (v := .int .i64 (k : Int)) rfl rfl rfl (Ex.move rfl rfl) ?_
  refine WL.op (v := v) rfl rfl rfl (Ex.move rfl rfl) ?_
  have hl887 : rs.length < 4611686018427387904 := (hS.mem (.head _) : Sl _ _ _).lt
  refine WL.op (v := .int .i64 (rs.length : Int)) rfl rfl rfl (Ex.lenSl (l := rs) ⟨_, under42⟩ rfl rfl (hS.mem (.head _))) ?_
  refine WL.op (v := .bool (decide ((k : Int) < (rs.length : Int)))) rfl rfl rfl (Ex.lt rfl rfl rfl) ?_
  refine WL.nil ?_
  refine then_normal ?_
  refine WP.cond (b := decide ((k : Int) < (rs.length : Int))) rfl (fun hc888 => ?_) (fun hc888 => ?_)
  ·
    have hc888' : (k : Int) < (rs.length : Int) := by simpa using hc888
    refine WP.skip ?_
    refine then_normal ?_
    refine WP.seq ?_
    refine WP.block ?_
    refine WP.seq ?_
    obtain ⟨b889, po890, x891, hx892, hi893, hS⟩ := hS.elem (α := Sv) (k := k) (.head _) under42 tySz22 (by omega)
    obtain ⟨li894, hli895⟩ : ∃ li, ls[k]? = some li := ⟨ls[k]'(by omega), by simp⟩
    replace hS := hS.inner (.tail _ (.tail _ (.head _))) hx892 hli895
    have hll896 : li894.length ≤ 1048576 := Nat.le_trans (get_flatten_le hli895) (hl2)
    refine WP.drawL 8 [(fun u_ _ => u_ = v), (fun u_ _ => u_ = .int .i64 (k : Int)), (fun u_ _ => u_ = .pointer (some ⟨b889, po890, none⟩)), (fun u_ _ => u_ = x891.v), (fun u_ _ => u_ = v), (fun u_ _ => u_ = .int .i64 (k : Int)), (fun u_ W_ => Sl W_ u_ (normAt (ls.eraseIdx k).flatten) ∧ New W886 u_), (fun u_ _ => u_ = .bool (leqAt li894 (normAt (ls.eraseIdx k).flatten)))] (fun vs => (17, vs 7) :: (16, vs 6) :: (15, vs 5) :: (14, vs 4) :: (13, vs 3) :: (12, vs 2) :: (11, vs 1) :: (10, vs 0) :: _) ⟨fun _ _ _ _ h => h, fun _ _ _ _ h => h, fun _ _ _ _ h => h, fun _ _ _ _ h => h, fun _ _ _ _ h => h, fun _ _ _ _ h => h, mono_sl, fun _ _ _ _ h => h, trivial⟩ (by kernel_rfl) (fun _ => rfl) ⟨?_, ?_, ?_, ?_, ?_, ?_, ?_, ?_, trivial⟩ ?_
    ·
      intro vs W hE hp
      exact dr_plain rfl (dr_ex (v := v) (Ex.move rfl rfl) (Bw.refl _) rfl)
    ·
      intro vs W hE hp
      exact dr_plain rfl (dr_ex (v := .int .i64 (k : Int)) (Ex.move rfl rfl) (Bw.refl _) rfl)
    ·
      intro vs W hE hp
      have p0 := hp 0 (by kernel_rfl)
      simp only [List.getD_cons_zero, List.getD_cons_succ] at p0
      have p1 := hp 1 (by kernel_rfl)
      simp only [List.getD_cons_zero, List.getD_cons_succ] at p1
      exact dr_plain rfl (dr_ex (v := .pointer (some ⟨b889, po890, none⟩)) (Ex.indexC hi893 rfl p0 p1) (Bw.refl _) rfl)
    ·
      intro vs W hE hp
      have p2 := hp 2 (by kernel_rfl)
      simp only [List.getD_cons_zero, List.getD_cons_succ] at p2
      exact dr_plain rfl (dr_ex (v := x891.v) (Ex.load1 tyOne22 rfl p2 (Reads.sub (cs := [x891.v]) ((hS.ext hE).get 1 rfl) 0 (ds := [x891.v]) rfl)) (Bw.refl _) rfl)
    ·
      intro vs W hE hp
      exact dr_plain rfl (dr_ex (v := v) (Ex.move rfl rfl) (Bw.refl _) rfl)
    ·
      intro vs W hE hp
      exact dr_plain rfl (dr_ex (v := .int .i64 (k : Int)) (Ex.move rfl rfl) (Bw.refl _) rfl)
    ·
      intro vs W hE hp
      have p4 := hp 4 (by kernel_rfl)
      simp only [List.getD_cons_zero, List.getD_cons_succ] at p4
      have p5 := hp 5 (by kernel_rfl)
      simp only [List.getD_cons_zero, List.getD_cons_succ] at p5
      exact dr_plain rfl (dr_callE (enterS eg91 (args := [v, .int .i64 (k : Int)]) rfl rfl rfl (l2 p4 p5)) ((c_without _ k rs ls _ ((hS.ext hE).mem (.tail _ (.tail _ (.head _)))) ((hS.ext hE).mem (.tail _ (.tail _ (.tail _ (.head _))))) hlen (hl2)).mono fun e W' ⟨v, h1, h2, h3, h4⟩ => ⟨v, h1, h2, h3, h4.of hE⟩))
    ·
      intro vs W hE hp
      have p3 := hp 3 (by kernel_rfl)
      simp only [List.getD_cons_zero, List.getD_cons_succ] at p3
      have p6 := hp 6 (by kernel_rfl)
      obtain ⟨hv6, hn6⟩ := p6; have p6 : vs 6 = vs 6 := rfl
      exact dr_plain rfl (dr_callS (v := .bool (leqAt li894 (normAt (ls.eraseIdx k).flatten))) (enterS eg21 (args := [x891.v, (vs 6)]) rfl rfl rfl (l2 p3 p6)) (c_rleq _ _ li894 (normAt (ls.eraseIdx k).flatten) _ ((hS.ext hE).mem (.head _)) hv6 (Nat.le_trans (get_flatten_le (by assumption)) hl2) (Nat.le_trans (normAt_length _) (Nat.le_trans (flatten_erase_le _ _) hl2))) (fun _ => rfl))
    intro vs W897 hE hv
    have hS0 := hS; replace hS := hS.ext hE
    have p0 : vs 0 = v := hv 0 (by decide)
    have p1 : vs 1 = .int .i64 (k : Int) := hv 1 (by decide)
    have p2 : vs 2 = .pointer (some ⟨b889, po890, none⟩) := hv 2 (by decide)
    have p3 : vs 3 = x891.v := hv 3 (by decide)
    have p4 : vs 4 = v := hv 4 (by decide)
    have p5 : vs 5 = .int .i64 (k : Int) := hv 5 (by decide)
    have p6 := hv 6 (by decide)
    obtain ⟨hv6, hn6⟩ := p6; have p6 : vs 6 = vs 6 := rfl
    replace hS := hS0.pinNew hS (pinSl (vs 6) (normAt (ls.eraseIdx k).flatten)) hv6 hn6
    replace p6 : vs 6 = vs 6 := rfl
    have p7 : vs 7 = .bool (leqAt li894 (normAt (ls.eraseIdx k).flatten)) := hv 7 (by decide)
    refine WL.keep (k := [(10, v), (11, .int .i64 (k : Int)), (12, .pointer (some ⟨b889, po890, none⟩)), (13, x891.v), (14, v), (15, .int .i64 (k : Int)), (16, (vs 6)), (17, .bool (leqAt li894 (normAt (ls.eraseIdx k).flatten)))]) ⟨p0, p1, p2, p3, p4, p5, p6, p7, trivial⟩ ?_
    refine WL.nil ?_
    refine then_normal ?_
    refine WP.cond (b := leqAt li894 (normAt (ls.eraseIdx k).flatten)) rfl (fun hc898 => ?_) (fun hc898 => ?_)
    ·
      refine WP.seq ?_
      refine WP.region ?_
      refine WL.op (v := .bool false) rfl rfl rfl (Ex.assign rfl rfl) ?_
      refine WL.nil ?_
      refine then_normal ?_
      refine WP.ret ?_
      refine inBlock_ret (then_ret (then_ret (inBlock_ret (then_ret (?_)))))
      refine rt1 (v := .bool false) rfl rfl ?_
      exact ⟨retb (range_not (k := k) (by omega) ((spare_eq hli895 ((leq_norm_r _ _).symm.trans hc898)).trans rfl)).symm, hS.bw⟩
    ·
      refine WP.skip ?_
      refine inBlock_normal ?_
      refine then_normal ?_
      refine WP.region ?_
      refine WL.op (v := .int .i64 (k : Int)) rfl rfl rfl (Ex.move rfl rfl) ?_
      refine WL.op (v := .int .i64 ((k + 1 : Nat) : Int)) rfl rfl rfl (Ex.add rfl rfl rfl (wrap_succ (by omega))) ?_
      refine WL.op (v := .int .i64 ((k + 1 : Nat) : Int)) rfl rfl rfl (Ex.assign rfl rfl) ?_
      refine WL.nil ?_
      refine then_normal ?_
      exact ⟨_, ⟨k + 1, _, fr_keep ⟨rfl, rfl, trivial⟩, rfl, by omega, hS.drop 0 3, range_next hall ((spare_eq hli895 ((leq_norm_r _ _).symm.trans hc898)).trans rfl)⟩, by simp only [id]; omega⟩
  ·
    have hc888' : ¬ ((k : Int) < (rs.length : Int)) := by simpa using hc888
    refine WP.exit ?_
    refine then_exit (then_exit (inBlock_same (?_)))
    refine then_normal ?_
    refine WP.seq ?_
    refine WP.region ?_
    refine WL.op (v := .bool true) rfl rfl rfl (Ex.assign rfl rfl) ?_
    refine WL.nil ?_
    refine then_normal ?_
    refine WP.ret ?_
    refine ?_
    refine rt1 (v := .bool true) rfl rfl ?_
    exact ⟨retb (by rw [show k = ls.length by omega] at hall; exact hall.symm), hS.bw⟩
set_option maxRecDepth 100000 in
set_option maxHeartbeats 4000000 in
theorem c_rneedless (v : Value) (rs : List Sv) (ls : List (List At)) (w : World) (hv : Sl w v rs) (hs : SS w rs ls) (hlen : rs.length = ls.length) (hc : Capd v) (hl : rs.length ≤ 1048576) (hl2 : ls.flatten.length ≤ 1048576) :
    Calls Try.prog 41 #[v] w fun e w' => ∃ v', e = .returned v' ∧ Bw w w' ∧ Sl w' v' (needF ls ls.length).1 ∧ New w v' := by
  have hS := St.begin (w := w) (pins := pinSl v rs :: pinSS rs ls :: []) ⟨hv, hs, trivial⟩
  refine enter (n := 31) Try.func41 rfl rfl (Nat.le_of_ble_eq_true rfl) (l := [(0, v)]) rfl ?_
  refine WP.seq ?_
  refine WP.region ?_
  refine WL.op (v := .slice none 0 0) rfl rfl rfl (Ex.assign rfl rfl) ?_
  refine WL.nil ?_
  refine then_normal ?_
  refine WP.seq ?_
  refine WP.region ?_
  refine WL.op (v := .slice none 0 0) rfl rfl rfl (Ex.assign rfl rfl) ?_
  refine WL.nil ?_
  refine then_normal ?_
  refine WP.seq ?_
  refine WP.region ?_
  refine WL.buildSlice (ps := []) (C := #[]) (E := 22) rfl (fun _ => by kernel_rfl) hS rfl rfl rfl rfl (fun b899 W900 hS => ?_)
  have hO901 : OutG (α := Sv) (.slice (some ⟨b899, 0, none⟩) 0 0) (some (b899, .cells #[] 22)) 22 [] := .inr ⟨b899, 0, #[], rfl, rfl, Nat.le_refl _, by decide, rfl, rfl⟩
  refine WL.op (v := v) rfl rfl rfl (Ex.move rfl rfl) ?_
  refine WL.appendAll (α := Sv) (xs := rs) under42 infT22 rfl (by decide) (by decide) [] hO901 hS (hS.mem (.head _)) (by simp; omega) rfl rfl rfl rfl rfl rfl (fun vo902 eo903 W904 hO905 hS => ?_)
  replace hO905 : OutG vo902 eo903 22 rs := hO905
  refine WL.op (v := vo902) rfl rfl rfl (Ex.assign rfl rfl) ?_
  refine WL.nil ?_
  refine then_normal ?_
  refine WP.seq ?_
  refine WP.seq ?_
  refine WP.region ?_
  refine WL.op (v := .int .i64 0) rfl rfl rfl (Ex.assign rfl rfl) ?_
  refine WL.nil ?_
  refine then_normal ?_
  refine WP.block ?_
  replace hS := hS.again (.tail _ (.head _))
  refine WP.loop (fun (μ : Nat) a W => ∃ (k : Nat), ∃ (vi : Value), ∃ (ei : Option (Nat × Obj)), ∃ (di : List Int), ∃ (el : Option (Nat × Obj)), ∃ (dl : List Sv), ∃ (lss : List (List At)), ∃ (l0 : Fr), a = fr 31 [] ([(0, v), (2, .slice none 0 0), (4, vo902), (5, .int .i64 (k : Int)), (3, vi)] ++ l0) ∧ μ = rs.length - k ∧ k ≤ rs.length ∧ St w ((ei.toList ++ el.toList)) (pinSS dl lss :: pinSl v rs :: pinSS rs ls :: []) W ∧ (OutG vi ei 3 di) ∧ (OutG vo902 el 22 dl) ∧ ((di, lss) = needF ls k) ∧ (dl.length = lss.length) ∧ (dl.length = rs.length) ∧ (lss.flatten.length ≤ 1048576) ∧ (di.length ≤ k)) id _ ⟨0, .slice none 0 0, none, [], eo903, rs, ls, _, fr_keep ⟨rfl, rfl, rfl, rfl, rfl, trivial⟩, rfl, by omega, (hS.perm (perm_of_count (fun f => by simp only [List.countP_append, List.countP_cons, List.countP_nil, Option.toList_none, Option.toList_some] <;> omega))), OutG.nil, hO905, rfl, hlen, rfl, hl2, Nat.le_refl _⟩ ?_
  rintro μ a W906 ⟨k, vi, ei, di, el, dl, lss, l0, rfl, rfl, hk, hS, hOi, hOl, hst, hlen2, hdl, hl3, hdi⟩
  refine WP.seq ?_
  refine WP.seq ?_
  refine WP.region ?_
  refine WL.op (v := .int .i64 (k : Int)) rfl rfl rfl (Ex.move rfl rfl) ?_
  refine WL.op (v := v) rfl rfl rfl (Ex.move rfl rfl) ?_
  have hl907 : rs.length < 4611686018427387904 := (hS.mem (.tail _ (.head _)) : Sl _ _ _).lt
  refine WL.op (v := .int .i64 (rs.length : Int)) rfl rfl rfl (Ex.lenSl (l := rs) ⟨_, under42⟩ rfl rfl (hS.mem (.tail _ (.head _)))) ?_
  refine WL.op (v := .bool (decide ((k : Int) < (rs.length : Int)))) rfl rfl rfl (Ex.lt rfl rfl rfl) ?_
  refine WL.nil ?_
  refine then_normal ?_
  refine WP.cond (b := decide ((k : Int) < (rs.length : Int))) rfl (fun hc908 => ?_) (fun hc908 => ?_)
  ·
    have hc908' : (k : Int) < (rs.length : Int) := by simpa using hc908
    refine WP.skip ?_
    refine then_normal ?_
    refine WP.seq ?_
    refine WP.block ?_
    refine WP.seq ?_
    obtain ⟨b909, po910, x911, hx912, hi913, hS⟩ := hS.elem (α := Sv) (k := k) (.tail _ (.head _)) under42 tySz22 (by omega)
    obtain ⟨li914, hli915⟩ : ∃ li, ls[k]? = some li := ⟨ls[k]'(by omega), by simp⟩
    replace hS := hS.inner (.tail _ (.tail _ (.tail _ (.head _)))) hx912 hli915
    have hll916 : li914.length ≤ 1048576 := Nat.le_trans (get_flatten_le hli915) (hl2)
    have hsl917 : Sl W906 vo902 dl := (OutG.slM hOl hS (fun p hp => by first | (rw [hp]; simp; done) | (cases hp; simp)) (by first | omega | (simp; done) | (simp; omega))).1
    refine WP.drawL 8 [(fun u_ _ => u_ = v), (fun u_ _ => u_ = .int .i64 (k : Int)), (fun u_ _ => u_ = .pointer (some ⟨b909, po910, none⟩)), (fun u_ _ => u_ = x911.v), (fun u_ _ => u_ = vo902), (fun u_ _ => u_ = .int .i64 (k : Int)), (fun u_ W_ => Sl W_ u_ (normAt (lss.eraseIdx k).flatten) ∧ New W906 u_), (fun u_ _ => u_ = .bool (leqAt li914 (normAt (lss.eraseIdx k).flatten)))] (fun vs => (22, vs 7) :: (21, vs 6) :: (20, vs 5) :: (19, vs 4) :: (18, vs 3) :: (17, vs 2) :: (16, vs 1) :: (15, vs 0) :: _) ⟨fun _ _ _ _ h => h, fun _ _ _ _ h => h, fun _ _ _ _ h => h, fun _ _ _ _ h => h, fun _ _ _ _ h => h, fun _ _ _ _ h => h, mono_sl, fun _ _ _ _ h => h, trivial⟩ (by kernel_rfl) (fun _ => rfl) ⟨?_, ?_, ?_, ?_, ?_, ?_, ?_, ?_, trivial⟩ ?_
    ·
      intro vs W hE hp
      exact dr_plain rfl (dr_ex (v := v) (Ex.move rfl rfl) (Bw.refl _) rfl)
    ·
      intro vs W hE hp
      exact dr_plain rfl (dr_ex (v := .int .i64 (k : Int)) (Ex.move rfl rfl) (Bw.refl _) rfl)
    ·
      intro vs W hE hp
      have p0 := hp 0 (by kernel_rfl)
      simp only [List.getD_cons_zero, List.getD_cons_succ] at p0
      have p1 := hp 1 (by kernel_rfl)
      simp only [List.getD_cons_zero, List.getD_cons_succ] at p1
      exact dr_plain rfl (dr_ex (v := .pointer (some ⟨b909, po910, none⟩)) (Ex.indexC hi913 rfl p0 p1) (Bw.refl _) rfl)
    ·
      intro vs W hE hp
      have p2 := hp 2 (by kernel_rfl)
      simp only [List.getD_cons_zero, List.getD_cons_succ] at p2
      exact dr_plain rfl (dr_ex (v := x911.v) (Ex.load1 tyOne22 rfl p2 (Reads.sub (cs := [x911.v]) ((hS.ext hE).get 1 rfl) 0 (ds := [x911.v]) rfl)) (Bw.refl _) rfl)
    ·
      intro vs W hE hp
      exact dr_plain rfl (dr_ex (v := vo902) (Ex.move rfl rfl) (Bw.refl _) rfl)
    ·
      intro vs W hE hp
      exact dr_plain rfl (dr_ex (v := .int .i64 (k : Int)) (Ex.move rfl rfl) (Bw.refl _) rfl)
    ·
      intro vs W hE hp
      have p4 := hp 4 (by kernel_rfl)
      simp only [List.getD_cons_zero, List.getD_cons_succ] at p4
      have p5 := hp 5 (by kernel_rfl)
      simp only [List.getD_cons_zero, List.getD_cons_succ] at p5
      exact dr_plain rfl (dr_callE (enterS eg91 (args := [vo902, .int .i64 (k : Int)]) rfl rfl rfl (l2 p4 p5)) ((c_without _ k dl lss _ (Sl.bw hsl917 hE) ((hS.ext hE).mem (.tail _ (.tail _ (.head _)))) hlen2 (hl3)).mono fun e W' ⟨v, h1, h2, h3, h4⟩ => ⟨v, h1, h2, h3, h4.of hE⟩))
    ·
      intro vs W hE hp
      have p3 := hp 3 (by kernel_rfl)
      simp only [List.getD_cons_zero, List.getD_cons_succ] at p3
      have p6 := hp 6 (by kernel_rfl)
      obtain ⟨hv6, hn6⟩ := p6; have p6 : vs 6 = vs 6 := rfl
      exact dr_plain rfl (dr_callS (v := .bool (leqAt li914 (normAt (lss.eraseIdx k).flatten))) (enterS eg21 (args := [x911.v, (vs 6)]) rfl rfl rfl (l2 p3 p6)) (c_rleq _ _ li914 (normAt (lss.eraseIdx k).flatten) _ ((hS.ext hE).mem (.head _)) hv6 (Nat.le_trans (get_flatten_le (by assumption)) hl2) (Nat.le_trans (normAt_length _) (Nat.le_trans (flatten_erase_le _ _) hl3))) (fun _ => rfl))
    intro vs W918 hE hv
    have hS0 := hS; replace hS := hS.ext hE
    have p0 : vs 0 = v := hv 0 (by decide)
    have p1 : vs 1 = .int .i64 (k : Int) := hv 1 (by decide)
    have p2 : vs 2 = .pointer (some ⟨b909, po910, none⟩) := hv 2 (by decide)
    have p3 : vs 3 = x911.v := hv 3 (by decide)
    have p4 : vs 4 = vo902 := hv 4 (by decide)
    have p5 : vs 5 = .int .i64 (k : Int) := hv 5 (by decide)
    have p6 := hv 6 (by decide)
    obtain ⟨hv6, hn6⟩ := p6; have p6 : vs 6 = vs 6 := rfl
    replace hS := hS0.pinNew hS (pinSl (vs 6) (normAt (lss.eraseIdx k).flatten)) hv6 hn6
    replace p6 : vs 6 = vs 6 := rfl
    have p7 : vs 7 = .bool (leqAt li914 (normAt (lss.eraseIdx k).flatten)) := hv 7 (by decide)
    refine WL.keep (k := [(15, v), (16, .int .i64 (k : Int)), (17, .pointer (some ⟨b909, po910, none⟩)), (18, x911.v), (19, vo902), (20, .int .i64 (k : Int)), (21, (vs 6)), (22, .bool (leqAt li914 (normAt (lss.eraseIdx k).flatten)))]) ⟨p0, p1, p2, p3, p4, p5, p6, p7, trivial⟩ ?_
    refine WL.nil ?_
    refine then_normal ?_
    refine WP.cond (b := leqAt li914 (normAt (lss.eraseIdx k).flatten)) rfl (fun hc919 => ?_) (fun hc919 => ?_)
    ·
      refine WP.seq ?_
      refine WP.region ?_
      refine WL.op (v := vi) rfl rfl rfl (Ex.move rfl rfl) ?_
      refine WL.op (v := .int .i64 (k : Int)) rfl rfl rfl (Ex.move rfl rfl) ?_
      refine WL.buildSlice (ps := [(0, .int .i64 (k : Int))]) (C := #[.int .i64 (k : Int)]) (E := 3) rfl (fun _ => by kernel_rfl) hS rfl rfl rfl rfl (fun b920 W921 hS => ?_)
      replace hS := hS.slice (α := Int) (xs := [(k : Int)]) (cap := 1) rfl (by simp)
      replace hS : St w (([] ++ el.toList) ++ ei.toList) (pinSl (.slice (some ⟨b920, 0, none⟩) 1 1) [(k : Int)] :: pinSl (vs 6) (normAt (lss.eraseIdx k).flatten) :: pinSl x911.v li914 :: pinReads b909 po910 (Enc.val x911).cells.toList :: pinSS dl lss :: pinSl v rs :: pinSS rs ls :: []) W921 := hS.perm (perm_of_count (fun f => by simp only [List.countP_append, List.countP_cons, List.countP_nil, Option.toList_none, Option.toList_some] <;> omega))
      refine WL.append (α := Int) (a := (k : Int)) under43 infT3 rfl (by decide) (by decide) ([] ++ el.toList) hOi hS (hS.mem (.head _)) (by omega) rfl rfl rfl rfl rfl rfl (fun vo922 eo923 W924 hO925 hS => ?_)
      refine WL.op (v := vo922) rfl rfl rfl (Ex.assign rfl rfl) ?_
      refine WL.nil ?_
      refine then_normal ?_
      refine WP.region ?_
      refine WL.op (v := vo902) rfl rfl rfl (Ex.move rfl rfl) ?_
      refine WL.op (v := .int .i64 (k : Int)) rfl rfl rfl (Ex.move rfl rfl) ?_
      obtain ⟨g926, og927, rfl, hi928⟩ := OutG.spot (i := k) hOl under42 tySz22 (by omega)
      refine WL.op (v := .pointer (some ⟨g926, k * Enc.sz Sv, none⟩)) rfl rfl rfl (Ex.indexC hi928 rfl rfl rfl) ?_
      replace hS : St w (([] ++ eo923.toList) ++ (some (g926, og927)).toList) (pinSl (.slice (some ⟨b920, 0, none⟩) 1 1) [(k : Int)] :: pinSl (vs 6) (normAt (lss.eraseIdx k).flatten) :: pinSl x911.v li914 :: pinReads b909 po910 (Enc.val x911).cells.toList :: pinSS dl lss :: pinSl v rs :: pinSS rs ls :: []) W924 := hS.perm (perm_of_count (fun f => by simp only [List.countP_append, List.countP_cons, List.countP_nil, Option.toList_none, Option.toList_some] <;> omega))
      refine WL.storeOut (α := Sv) (a := (Sv.mk none 0 0)) (i := k) hOl tySz22 (by omega) ([] ++ eo923.toList) hS rfl rfl rfl rfl rfl (fun og931 W930 hO932 hS => ?_)
      refine WL.nil ?_
      refine inBlock_normal ?_
      refine then_normal ?_
      refine WP.region ?_
      refine WL.op (v := .int .i64 (k : Int)) rfl rfl rfl (Ex.move rfl rfl) ?_
      refine WL.op (v := .int .i64 ((k + 1 : Nat) : Int)) rfl rfl rfl (Ex.add rfl rfl rfl (wrap_succ (by omega))) ?_
      refine WL.op (v := .int .i64 ((k + 1 : Nat) : Int)) rfl rfl rfl (Ex.assign rfl rfl) ?_
      refine WL.nil ?_
      refine then_normal ?_
      replace hS := hS.ssSet (.tail _ (.tail _ (.tail _ (.tail _ (.head _))))) k
      exact ⟨_, ⟨k + 1, vo922, eo923, di ++ [(k : Int)], (some (g926, og931)), dl.set k (Sv.mk none 0 0), lss.set k [], _, fr_keep ⟨rfl, rfl, rfl, rfl, rfl, trivial⟩, rfl, by omega, (hS.repin 0 ⟨(.head _), (.tail _ (.tail _ (.tail _ (.tail _ (.tail _ (.tail _ (.head _))))))), (.tail _ (.tail _ (.tail _ (.tail _ (.tail _ (.tail _ (.tail _ (.head _)))))))), trivial⟩), hO925, hO932, need_yes hst hli915 ((leq_norm_r _ _).symm.trans hc919), (by simp [hlen2]), (by simp [hdl]), (Nat.le_trans (flatten_set_le _ _) hl3), (by simp only [List.length_append, List.length_cons, List.length_nil]; omega)⟩, by simp only [id]; omega⟩
    ·
      refine WP.skip ?_
      refine inBlock_normal ?_
      refine then_normal ?_
      refine WP.region ?_
      refine WL.op (v := .int .i64 (k : Int)) rfl rfl rfl (Ex.move rfl rfl) ?_
      refine WL.op (v := .int .i64 ((k + 1 : Nat) : Int)) rfl rfl rfl (Ex.add rfl rfl rfl (wrap_succ (by omega))) ?_
      refine WL.op (v := .int .i64 ((k + 1 : Nat) : Int)) rfl rfl rfl (Ex.assign rfl rfl) ?_
      refine WL.nil ?_
      refine then_normal ?_
      exact ⟨_, ⟨k + 1, vi, ei, di, el, dl, lss, _, fr_keep ⟨rfl, rfl, rfl, rfl, rfl, trivial⟩, rfl, by omega, (hS.repin 0 ⟨(.tail _ (.tail _ (.tail _ (.head _)))), (.tail _ (.tail _ (.tail _ (.tail _ (.head _))))), (.tail _ (.tail _ (.tail _ (.tail _ (.tail _ (.head _)))))), trivial⟩), hOi, hOl, need_no hst hli915 ((leq_norm_r _ _).symm.trans hc919), hlen2, hdl, hl3, (by omega)⟩, by simp only [id]; omega⟩
  ·
    have hc908' : ¬ ((k : Int) < (rs.length : Int)) := by simpa using hc908
    refine WP.exit ?_
    refine then_exit (then_exit (inBlock_same (?_)))
    refine then_normal ?_
    refine WP.seq ?_
    refine WP.region ?_
    refine WL.op (v := vi) rfl rfl rfl (Ex.move rfl rfl) ?_
    refine WL.op (v := vi) rfl rfl rfl (Ex.assign rfl rfl) ?_
    refine WL.nil ?_
    refine then_normal ?_
    refine WP.ret ?_
    refine ?_
    refine rt1 (v := vi) rfl rfl ?_
    rw [show k = ls.length by omega] at hst
    have hz := OutG.slM hOi hS (fun p hp => by rw [hp]; simp) (by omega)
    exact ⟨_, rfl, hS.bw, (by rw [← hst]; exact hz.1), hz.2⟩
set_option maxRecDepth 100000 in
set_option maxHeartbeats 1000000 in
theorem c_rcompare (v v2 : Value) (la lb : List At) (w : World) (ha : Sl w v la) (hb : Sl w v2 lb) (hl : la.length ≤ 1048576) (hl2 : lb.length ≤ 1048576) :
    Calls Try.prog 59 #[v, v2] w fun e w' => e = .returned (.int .i64 (cmpAt la lb)) ∧ Bw w w' := by
  have hS := St.begin (w := w) (pins := pinSl v la :: pinSl v2 lb :: []) ⟨ha, hb, trivial⟩
  refine enter (n := 22) Try.func59 rfl rfl (Nat.le_of_ble_eq_true rfl) (l := [(0, v), (1, v2)]) rfl ?_
  refine WP.seq ?_
  refine WP.region ?_
  refine WL.op (v := .int .i64 0) rfl rfl rfl (Ex.assign rfl rfl) ?_
  refine WL.nil ?_
  refine then_normal ?_
  refine WP.seq ?_
  refine WP.region ?_
  refine WL.op (v := v) rfl rfl rfl (Ex.move rfl rfl) ?_
  refine WL.op (v := v2) rfl rfl rfl (Ex.move rfl rfl) ?_
  refine WL.call rfl rfl rfl (enterS eg21 (args := [v, v2]) rfl rfl rfl rfl) (c_rleq _ _ la lb _ (hS.mem (.head _)) (hS.mem (.tail _ (.head _))) (by first | omega | (simp; done) | (simp; omega)) (by first | omega | (simp; done) | (simp; omega))) ?_
  rintro e W933 ⟨rfl, hB⟩
  replace hS := hS.ext hB
  refine ⟨_, rfl, ?_⟩
  refine WL.op (v := v2) rfl rfl rfl (Ex.move rfl rfl) ?_
  refine WL.op (v := v) rfl rfl rfl (Ex.move rfl rfl) ?_
  refine WL.call rfl rfl rfl (enterS eg21 (args := [v2, v]) rfl rfl rfl rfl) (c_rleq _ _ lb la _ (hS.mem (.tail _ (.head _))) (hS.mem (.head _)) (by first | omega | (simp; done) | (simp; omega)) (by first | omega | (simp; done) | (simp; omega))) ?_
  rintro e W934 ⟨rfl, hB⟩
  replace hS := hS.ext hB
  refine ⟨_, rfl, ?_⟩
  refine WL.op (v := .bool (leqAt la lb)) rfl rfl rfl (Ex.assign rfl rfl) ?_
  refine WL.op (v := .bool (leqAt lb la)) rfl rfl rfl (Ex.assign rfl rfl) ?_
  refine WL.nil ?_
  refine then_normal ?_
  refine WP.seq ?_
  refine WP.block ?_
  refine WP.seq ?_
  refine WP.region ?_
  refine WL.op (v := .bool (leqAt la lb)) rfl rfl rfl (Ex.move rfl rfl) ?_
  refine WL.op (v := .bool (leqAt la lb)) rfl rfl rfl (Ex.move rfl rfl) ?_
  rcases Bool.eq_false_or_eq_true (leqAt la lb) with hg935 | hg935
  ·
    refine WL.on rfl rfl rfl (congrArg Value.bool hg935) ?_
    refine WL.op (v := .bool (leqAt lb la)) rfl rfl rfl (Ex.move rfl rfl) ?_
    refine WL.op (v := .bool (leqAt lb la)) rfl rfl rfl (Ex.pickT rfl (congrArg Value.bool hg935) rfl) ?_
    refine WL.op (v := .bool (leqAt lb la)) rfl rfl rfl (Ex.assign rfl rfl) ?_
    refine WL.nil ?_
    refine then_normal ?_
    refine WP.cond (b := leqAt lb la) rfl (fun hc936 => ?_) (fun hc936 => ?_)
    ·
      refine WP.seq ?_
      refine WP.region ?_
      refine WL.op (v := .int .i64 0) rfl rfl rfl (Ex.assign rfl rfl) ?_
      refine WL.nil ?_
      refine then_normal ?_
      refine WP.ret ?_
      refine inBlock_ret (then_ret (?_))
      refine rt1 (v := .int .i64 0) rfl rfl ?_
      exact ⟨reti (by simp only [cmpAt, hg935, hc936]; rfl), hS.bw⟩
    ·
      refine WP.seq ?_
      refine WP.region ?_
      refine WL.op (v := .bool (leqAt la lb)) rfl rfl rfl (Ex.move rfl rfl) ?_
      refine WL.op (v := .bool (leqAt la lb)) rfl rfl rfl (Ex.assign rfl rfl) ?_
      refine WL.nil ?_
      refine then_normal ?_
      refine WP.condT (congrArg Value.bool hg935) ?_
      refine WP.seq ?_
      refine WP.region ?_
      refine WL.op (v := .int .i64 1) rfl rfl rfl (Ex.assign rfl rfl) ?_
      refine WL.nil ?_
      refine then_normal ?_
      refine WP.ret ?_
      refine inBlock_ret (then_ret (?_))
      refine rt1 (v := .int .i64 1) rfl rfl ?_
      exact ⟨reti (by simp only [cmpAt, hg935, hc936]; rfl), hS.bw⟩
  ·
    refine WL.off (b' := false) rfl rfl rfl rfl rfl rfl (congrArg Value.bool hg935) rfl ?_
    refine WL.op (v := .bool false) rfl rfl rfl (Ex.pickF rfl (congrArg Value.bool hg935) rfl) ?_
    refine WL.op (v := .bool false) rfl rfl rfl (Ex.assign rfl rfl) ?_
    refine WL.nil ?_
    refine then_normal ?_
    refine WP.condF rfl ?_
    refine WP.seq ?_
    refine WP.region ?_
    refine WL.op (v := .bool (leqAt la lb)) rfl rfl rfl (Ex.move rfl rfl) ?_
    refine WL.op (v := .bool (leqAt la lb)) rfl rfl rfl (Ex.assign rfl rfl) ?_
    refine WL.nil ?_
    refine then_normal ?_
    refine WP.condF (congrArg Value.bool hg935) ?_
    refine WP.seq ?_
    refine WP.region ?_
    refine WL.op (v := .bool (leqAt lb la)) rfl rfl rfl (Ex.move rfl rfl) ?_
    refine WL.op (v := .bool (leqAt lb la)) rfl rfl rfl (Ex.assign rfl rfl) ?_
    refine WL.nil ?_
    refine then_normal ?_
    refine WP.cond (b := leqAt lb la) rfl (fun hc937 => ?_) (fun hc937 => ?_)
    ·
      refine WP.seq ?_
      refine WP.region ?_
      refine WL.op (v := .int .i64 2) rfl rfl rfl (Ex.assign rfl rfl) ?_
      refine WL.nil ?_
      refine then_normal ?_
      refine WP.ret ?_
      refine inBlock_ret (then_ret (?_))
      refine rt1 (v := .int .i64 2) rfl rfl ?_
      exact ⟨reti (by simp only [cmpAt, hg935, hc937]; rfl), hS.bw⟩
    ·
      refine WP.skip ?_
      refine inBlock_normal ?_
      refine then_normal ?_
      refine WP.seq ?_
      refine WP.region ?_
      refine WL.op (v := .int .i64 3) rfl rfl rfl (Ex.assign rfl rfl) ?_
      refine WL.nil ?_
      refine then_normal ?_
      refine WP.ret ?_
      refine ?_
      refine rt1 (v := .int .i64 3) rfl rfl ?_
      exact ⟨reti (by simp only [cmpAt, hg935, hc937]; rfl), hS.bw⟩
end Go.Proofs.Ythidakffgcjjiaa
