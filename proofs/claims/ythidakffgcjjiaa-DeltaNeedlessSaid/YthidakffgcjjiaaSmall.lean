/- Rows that are the same, rows that are right: walked. -/
import Derived.Test.YthidakffgcjjiaaTys
import Derived.Test.YthidakffgcjjiaaRange
import Derived.Test.YthidakffgcjjiaaNorm
import Derived.Test.YthidakffgcjjiaaGrow
namespace Go.Proofs.Ythidakffgcjjiaa
open Go.RowKit Go.Sort

theorem same_next {la lb : List At} {k : Nat} {x y : At} (h : la.take k = lb.take k) (hx : la[k]? = some x) (hy : lb[k]? = some y) (e : x = y) : la.take (k + 1) = lb.take (k + 1) := by
  rw [take_snoc? hx, take_snoc? hy, h, e]
theorem same_not {la lb : List At} {k : Nat} {x y : At} (hx : la[k]? = some x) (hy : lb[k]? = some y) (e : ¬ x = y) : false = decide (la = lb) := by
  symm; apply decide_eq_false; intro h; subst h; rw [hx] at hy; exact e (Option.some.inj hy)
theorem same_len {la lb : List At} (h : ¬ (la.length : Int) = (lb.length : Int)) : false = decide (la = lb) := by
  symm; apply decide_eq_false; intro e; subst e; exact h rfl
theorem same_end {la lb : List At} {k : Nat} (h : la.take k = lb.take k) (hk : k = la.length) (hl : (la.length : Int) = (lb.length : Int)) : true = decide (la = lb) := by
  symm; apply decide_eq_true
  rw [hk, List.take_length, show la.length = lb.length by omega, List.take_length] at h
  exact h
theorem getD_some' {l : List At} {k : Nat} {x : At} (h : l[k]? = some x) : l.getD k default = x := by rw [List.getD_eq_getElem?_getD, h]; rfl
theorem gd_first {l : List At} {k : Nat} {x : At} (hx : l[k]? = some x) (hr : x.right = true) (h0 : k = 0) : goodAt l k = true := by
  subst h0; simp only [goodAt, getD_some' hx, hr]; rfl
theorem gd_later {l : List At} {k : Nat} {x y : At} (hx : l[k]? = some x) (hr : x.right = true) (hy : l[k - 1]? = some y) (h : ¬ (0 : Int) ≤ y.k.ord x.k) : goodAt l k = true := by
  simp only [goodAt, getD_some' hx, getD_some' hy, hr, Bool.true_and, Bool.or_eq_true, decide_eq_true_eq]
  right; omega
theorem bd_right {l : List At} {k : Nat} {x : At} (hx : l[k]? = some x) (hr : x.right = false) : false = latRight l :=
  (latRight_no (List.getElem?_eq_some_iff.1 hx).1 (by simp only [goodAt, getD_some' hx, hr, Bool.false_and])).symm
theorem bd_later {l : List At} {k : Nat} {x y : At} (hx : l[k]? = some x) (hy : l[k - 1]? = some y) (hk : 0 < k) (h : (0 : Int) ≤ y.k.ord x.k) : false = latRight l := by
  refine (latRight_no (List.getElem?_eq_some_iff.1 hx).1 ?_).symm
  simp only [goodAt, getD_some' hx, getD_some' hy]
  rw [Bool.and_eq_false_iff]
  right
  rw [Bool.or_eq_false_iff]
  refine ⟨by simp; omega, ?_⟩
  rw [decide_eq_false_iff_not]
  omega
theorem c_order (x y : At) (w : World) : Calls Try.prog 80 #[.agg x.enc, .agg y.enc] w fun e w' => e = .returned (.int .i64 (x.k.ord y.k)) ∧ Bw w w' := (order_any x y w).mono fun _ _ h => ⟨h.1, Bw.of h.2⟩
set_option maxRecDepth 100000 in
set_option maxHeartbeats 1000000 in
theorem c_rows (va vb : Value) (la lb : List At) (w : World) (ha : Sl w va la) (hb : Sl w vb lb) :
    Calls Try.prog 15 #[va, vb] w fun e w' => e = .returned (.bool (decide (la = lb))) ∧ Bw w w' := by
  have hS := St.begin (w := w) (pins := pinSl va la :: pinSl vb lb :: []) ⟨ha, hb, trivial⟩
  refine enter (n := 26) Try.func15 rfl rfl (Nat.le_of_ble_eq_true rfl) (l := [(0, va), (1, vb)]) rfl ?_
  refine WP.seq ?_
  refine WP.region ?_
  refine WL.op (v := .bool false) rfl rfl rfl (Ex.assign rfl rfl) ?_
  refine WL.nil ?_
  refine then_normal ?_
  refine WP.seq ?_
  refine WP.seq ?_
  refine WP.region ?_
  refine WL.op (v := va) rfl rfl rfl (Ex.move rfl rfl) ?_
  have hl1 : la.length < 4611686018427387904 := (hS.mem (.head _) : Sl _ _ _).lt
  refine WL.op (v := .int .i64 (la.length : Int)) rfl rfl rfl (Ex.lenSl (l := la) ⟨_, under22⟩ rfl rfl (hS.mem (.head _))) ?_
  refine WL.op (v := vb) rfl rfl rfl (Ex.move rfl rfl) ?_
  have hl2 : lb.length < 4611686018427387904 := (hS.mem (.tail _ (.head _)) : Sl _ _ _).lt
  refine WL.op (v := .int .i64 (lb.length : Int)) rfl rfl rfl (Ex.lenSl (l := lb) ⟨_, under22⟩ rfl rfl (hS.mem (.tail _ (.head _)))) ?_
  refine WL.op (v := .bool (!decide ((la.length : Int) = (lb.length : Int)))) rfl rfl rfl (Ex.ne rfl rfl rfl) ?_
  refine WL.nil ?_
  refine then_normal ?_
  refine WP.cond (b := !decide ((la.length : Int) = (lb.length : Int))) rfl (fun hc3 => ?_) (fun hc3 => ?_)
  ·
    have hc3' : ¬ ((la.length : Int) = (lb.length : Int)) := by simpa using hc3
    refine WP.seq ?_
    refine WP.region ?_
    refine WL.op (v := .bool false) rfl rfl rfl (Ex.assign rfl rfl) ?_
    refine WL.nil ?_
    refine then_normal ?_
    refine WP.ret ?_
    refine then_ret (?_)
    refine rt1 (v := .bool false) rfl rfl ?_
    exact ⟨retb (by first | exact same_len (by assumption) | exact same_end heq (by omega) (by omega)), hS.bw⟩
  ·
    have hc3' : (la.length : Int) = (lb.length : Int) := by simpa using hc3
    refine WP.skip ?_
    refine then_normal ?_
    refine WP.seq ?_
    refine WP.seq ?_
    refine WP.region ?_
    refine WL.op (v := .int .i64 0) rfl rfl rfl (Ex.assign rfl rfl) ?_
    refine WL.nil ?_
    refine then_normal ?_
    refine WP.block ?_
    refine WP.loop (fun (μ : Nat) a W => ∃ (k : Nat), ∃ (l0 : Fr), a = fr 26 [] ([(0, va), (1, vb), (5, .int .i64 (k : Int))] ++ l0) ∧ μ = la.length - k ∧ k ≤ la.length ∧ St w ([]) (pinSl va la :: pinSl vb lb :: []) W ∧ (la.take k = lb.take k)) id _ ⟨0, _, fr_keep ⟨rfl, rfl, rfl, trivial⟩, rfl, by omega, hS, rfl⟩ ?_
    rintro μ a W4 ⟨k, l0, rfl, rfl, hk, hS, heq⟩
    refine WP.seq ?_
    refine WP.seq ?_
    refine WP.region ?_
    refine WL.op (v := .int .i64 (k : Int)) rfl rfl rfl (Ex.move rfl rfl) ?_
    refine WL.op (v := va) rfl rfl rfl (Ex.move rfl rfl) ?_
    refine WL.op (v := .int .i64 (la.length : Int)) rfl rfl rfl (Ex.lenSl (l := la) ⟨_, under22⟩ rfl rfl (hS.mem (.head _))) ?_
    refine WL.op (v := .bool (decide ((k : Int) < (la.length : Int)))) rfl rfl rfl (Ex.lt rfl rfl rfl) ?_
    refine WL.nil ?_
    refine then_normal ?_
    refine WP.cond (b := decide ((k : Int) < (la.length : Int))) rfl (fun hc5 => ?_) (fun hc5 => ?_)
    ·
      have hc5' : (k : Int) < (la.length : Int) := by simpa using hc5
      refine WP.skip ?_
      refine then_normal ?_
      refine WP.seq ?_
      refine WP.block ?_
      refine WP.seq ?_
      obtain ⟨b6, po7, x8, hx9, hi10, hS⟩ := hS.elem (α := At) (k := k) (.head _) under22 tySz71 (by omega)
      obtain ⟨b11, po12, x13, hx14, hi15, hS⟩ := hS.elem (α := At) (k := k) (.tail _ (.tail _ (.head _))) under22 tySz71 (by omega)
      refine WP.drawL 9 [(fun u_ _ => u_ = va), (fun u_ _ => u_ = .int .i64 (k : Int)), (fun u_ _ => u_ = .pointer (some ⟨b6, po7, none⟩)), (fun u_ _ => u_ = .agg x8.enc), (fun u_ _ => u_ = vb), (fun u_ _ => u_ = .int .i64 (k : Int)), (fun u_ _ => u_ = .pointer (some ⟨b11, po12, none⟩)), (fun u_ _ => u_ = .agg x13.enc), (fun u_ _ => u_ = .bool (!decide (x8 = x13)))] (fun vs => (25, vs 8) :: (24, vs 7) :: (23, vs 6) :: (22, vs 5) :: (21, vs 4) :: (20, vs 3) :: (19, vs 2) :: (18, vs 1) :: (17, vs 0) :: _) ⟨fun _ _ _ _ h => h, fun _ _ _ _ h => h, fun _ _ _ _ h => h, fun _ _ _ _ h => h, fun _ _ _ _ h => h, fun _ _ _ _ h => h, fun _ _ _ _ h => h, fun _ _ _ _ h => h, fun _ _ _ _ h => h, trivial⟩ (by kernel_rfl) (fun _ => rfl) ⟨?_, ?_, ?_, ?_, ?_, ?_, ?_, ?_, ?_, trivial⟩ ?_
      ·
        intro vs W hE hp
        exact dr_plain rfl (dr_ex (v := va) (Ex.move rfl rfl) (Bw.refl _) rfl)
      ·
        intro vs W hE hp
        exact dr_plain rfl (dr_ex (v := .int .i64 (k : Int)) (Ex.move rfl rfl) (Bw.refl _) rfl)
      ·
        intro vs W hE hp
        have p0 := hp 0 (by kernel_rfl)
        simp only [List.getD_cons_zero, List.getD_cons_succ] at p0
        have p1 := hp 1 (by kernel_rfl)
        simp only [List.getD_cons_zero, List.getD_cons_succ] at p1
        exact dr_plain rfl (dr_ex (v := .pointer (some ⟨b6, po7, none⟩)) (Ex.indexC hi10 rfl p0 p1) (Bw.refl _) rfl)
      ·
        intro vs W hE hp
        have p2 := hp 2 (by kernel_rfl)
        simp only [List.getD_cons_zero, List.getD_cons_succ] at p2
        exact dr_plain rfl (dr_ex (v := .agg x8.enc) (Ex.loadA tyAgg71 rfl p2 (Reads.sub (cs := x8.enc.toList) ((hS.ext hE).get 1 rfl) 0 (ds := x8.enc.toList) rfl) rfl) (Bw.refl _) rfl)
      ·
        intro vs W hE hp
        exact dr_plain rfl (dr_ex (v := vb) (Ex.move rfl rfl) (Bw.refl _) rfl)
      ·
        intro vs W hE hp
        exact dr_plain rfl (dr_ex (v := .int .i64 (k : Int)) (Ex.move rfl rfl) (Bw.refl _) rfl)
      ·
        intro vs W hE hp
        have p4 := hp 4 (by kernel_rfl)
        simp only [List.getD_cons_zero, List.getD_cons_succ] at p4
        have p5 := hp 5 (by kernel_rfl)
        simp only [List.getD_cons_zero, List.getD_cons_succ] at p5
        exact dr_plain rfl (dr_ex (v := .pointer (some ⟨b11, po12, none⟩)) (Ex.indexC hi15 rfl p4 p5) (Bw.refl _) rfl)
      ·
        intro vs W hE hp
        have p6 := hp 6 (by kernel_rfl)
        simp only [List.getD_cons_zero, List.getD_cons_succ] at p6
        exact dr_plain rfl (dr_ex (v := .agg x13.enc) (Ex.loadA tyAgg71 rfl p6 (Reads.sub (cs := x13.enc.toList) ((hS.ext hE).get 0 rfl) 0 (ds := x13.enc.toList) rfl) rfl) (Bw.refl _) rfl)
      ·
        intro vs W hE hp
        have p3 := hp 3 (by kernel_rfl)
        simp only [List.getD_cons_zero, List.getD_cons_succ] at p3
        have p7 := hp 7 (by kernel_rfl)
        simp only [List.getD_cons_zero, List.getD_cons_succ] at p7
        exact dr_plain rfl (dr_ex (v := .bool (!decide (x8 = x13))) (Ex.binop rfl p3 p7 (neqlS71 _ _ _ _ _)) (Bw.refl _) rfl)
      intro vs W16 hE hv
      have hS0 := hS; replace hS := hS.ext hE
      have p0 : vs 0 = va := hv 0 (by decide)
      have p1 : vs 1 = .int .i64 (k : Int) := hv 1 (by decide)
      have p2 : vs 2 = .pointer (some ⟨b6, po7, none⟩) := hv 2 (by decide)
      have p3 : vs 3 = .agg x8.enc := hv 3 (by decide)
      have p4 : vs 4 = vb := hv 4 (by decide)
      have p5 : vs 5 = .int .i64 (k : Int) := hv 5 (by decide)
      have p6 : vs 6 = .pointer (some ⟨b11, po12, none⟩) := hv 6 (by decide)
      have p7 : vs 7 = .agg x13.enc := hv 7 (by decide)
      have p8 : vs 8 = .bool (!decide (x8 = x13)) := hv 8 (by decide)
      refine WL.keep (k := [(17, va), (18, .int .i64 (k : Int)), (19, .pointer (some ⟨b6, po7, none⟩)), (20, .agg x8.enc), (21, vb), (22, .int .i64 (k : Int)), (23, .pointer (some ⟨b11, po12, none⟩)), (24, .agg x13.enc), (25, .bool (!decide (x8 = x13)))]) ⟨p0, p1, p2, p3, p4, p5, p6, p7, p8, trivial⟩ ?_
      refine WL.nil ?_
      refine then_normal ?_
      refine WP.cond (b := !decide (x8 = x13)) rfl (fun hc17 => ?_) (fun hc17 => ?_)
      ·
        have hc17' : ¬ (x8 = x13) := by simpa using hc17
        refine WP.seq ?_
        refine WP.region ?_
        refine WL.op (v := .bool false) rfl rfl rfl (Ex.assign rfl rfl) ?_
        refine WL.nil ?_
        refine then_normal ?_
        refine WP.ret ?_
        refine inBlock_ret (then_ret (then_ret (inBlock_ret (then_ret (?_)))))
        refine rt1 (v := .bool false) rfl rfl ?_
        exact ⟨retb (same_not hx9 hx14 hc17'), hS.bw⟩
      ·
        have hc17' : x8 = x13 := by simpa using hc17
        refine WP.skip ?_
        refine inBlock_normal ?_
        refine then_normal ?_
        refine WP.region ?_
        refine WL.op (v := .int .i64 (k : Int)) rfl rfl rfl (Ex.move rfl rfl) ?_
        refine WL.op (v := .int .i64 ((k + 1 : Nat) : Int)) rfl rfl rfl (Ex.add rfl rfl rfl (wrap_succ (by omega))) ?_
        refine WL.op (v := .int .i64 ((k + 1 : Nat) : Int)) rfl rfl rfl (Ex.assign rfl rfl) ?_
        refine WL.nil ?_
        refine then_normal ?_
        exact ⟨_, ⟨k + 1, _, fr_keep ⟨rfl, rfl, rfl, trivial⟩, rfl, by omega, hS.drop 0 2, same_next heq hx9 hx14 hc17'⟩, by simp only [id]; omega⟩
    ·
      have hc5' : ¬ ((k : Int) < (la.length : Int)) := by simpa using hc5
      refine WP.exit ?_
      refine then_exit (then_exit (inBlock_same (?_)))
      refine then_normal ?_
      refine WP.seq ?_
      refine WP.region ?_
      refine WL.op (v := .bool true) rfl rfl rfl (Ex.assign rfl rfl) ?_
      refine WL.nil ?_
      refine then_normal ?_
      refine WP.ret ?_
      refine ?_
      refine rt1 (v := .bool true) rfl rfl ?_
      exact ⟨retb (by first | exact same_len (by assumption) | exact same_end heq (by omega) (by omega)), hS.bw⟩
set_option maxRecDepth 100000 in
set_option maxHeartbeats 1000000 in
theorem c_equal (va vb : Value) (la lb : List At) (w : World) (ha : Sl w va la) (hb : Sl w vb lb) :
    Calls Try.prog 78 #[va, vb] w fun e w' => e = .returned (.bool (decide (la = lb))) ∧ Bw w w' := by
  have hS := St.begin (w := w) (pins := pinSl va la :: pinSl vb lb :: []) ⟨ha, hb, trivial⟩
  refine enter (n := 26) Try.func78 rfl rfl (Nat.le_of_ble_eq_true rfl) (l := [(0, va), (1, vb)]) rfl ?_
  refine WP.seq ?_
  refine WP.region ?_
  refine WL.op (v := .bool false) rfl rfl rfl (Ex.assign rfl rfl) ?_
  refine WL.nil ?_
  refine then_normal ?_
  refine WP.seq ?_
  refine WP.seq ?_
  refine WP.region ?_
  refine WL.op (v := va) rfl rfl rfl (Ex.move rfl rfl) ?_
  have hl18 : la.length < 4611686018427387904 := (hS.mem (.head _) : Sl _ _ _).lt
  refine WL.op (v := .int .i64 (la.length : Int)) rfl rfl rfl (Ex.lenSl (l := la) ⟨_, under22⟩ rfl rfl (hS.mem (.head _))) ?_
  refine WL.op (v := vb) rfl rfl rfl (Ex.move rfl rfl) ?_
  have hl19 : lb.length < 4611686018427387904 := (hS.mem (.tail _ (.head _)) : Sl _ _ _).lt
  refine WL.op (v := .int .i64 (lb.length : Int)) rfl rfl rfl (Ex.lenSl (l := lb) ⟨_, under22⟩ rfl rfl (hS.mem (.tail _ (.head _)))) ?_
  refine WL.op (v := .bool (!decide ((la.length : Int) = (lb.length : Int)))) rfl rfl rfl (Ex.ne rfl rfl rfl) ?_
  refine WL.nil ?_
  refine then_normal ?_
  refine WP.cond (b := !decide ((la.length : Int) = (lb.length : Int))) rfl (fun hc20 => ?_) (fun hc20 => ?_)
  ·
    have hc20' : ¬ ((la.length : Int) = (lb.length : Int)) := by simpa using hc20
    refine WP.seq ?_
    refine WP.region ?_
    refine WL.op (v := .bool false) rfl rfl rfl (Ex.assign rfl rfl) ?_
    refine WL.nil ?_
    refine then_normal ?_
    refine WP.ret ?_
    refine then_ret (?_)
    refine rt1 (v := .bool false) rfl rfl ?_
    exact ⟨retb (by first | exact same_len (by assumption) | exact same_end heq (by omega) (by omega)), hS.bw⟩
  ·
    have hc20' : (la.length : Int) = (lb.length : Int) := by simpa using hc20
    refine WP.skip ?_
    refine then_normal ?_
    refine WP.seq ?_
    refine WP.seq ?_
    refine WP.region ?_
    refine WL.op (v := va) rfl rfl rfl (Ex.move rfl rfl) ?_
    refine WL.op (v := .int .i64 (la.length : Int)) rfl rfl rfl (Ex.lenSl (l := la) ⟨_, under22⟩ rfl rfl (hS.mem (.head _))) ?_
    refine WL.op (v := .int .i64 0) rfl rfl rfl (Ex.move rfl rfl) ?_
    refine WL.nil ?_
    refine then_normal ?_
    refine WP.block ?_
    refine WP.loop (fun (μ : Nat) a W => ∃ (k : Nat), ∃ (l0 : Fr), a = fr 26 [] ([(0, va), (1, vb), (12, .int .i64 (la.length : Int)), (13, .int .i64 (k : Int))] ++ l0) ∧ μ = la.length - k ∧ k ≤ la.length ∧ St w ([]) (pinSl va la :: pinSl vb lb :: []) W ∧ (la.take k = lb.take k)) id _ ⟨0, _, fr_keep ⟨rfl, rfl, rfl, rfl, trivial⟩, rfl, by omega, hS, rfl⟩ ?_
    rintro μ a W21 ⟨k, l0, rfl, rfl, hk, hS, heq⟩
    refine WP.seq ?_
    refine WP.region ?_
    refine WL.op (v := .bool (decide ((k : Int) < (la.length : Int)))) rfl rfl rfl (Ex.lt rfl rfl rfl) ?_
    refine WL.nil ?_
    refine then_normal ?_
    refine WP.seq ?_
    refine WP.cond (b := decide ((k : Int) < (la.length : Int))) rfl (fun hc22 => ?_) (fun hc22 => ?_)
    ·
      have hc22' : (k : Int) < (la.length : Int) := by simpa using hc22
      refine WP.skip ?_
      refine then_normal ?_
      refine WP.seq ?_
      refine WP.block ?_
      refine WP.seq ?_
      refine WP.region ?_
      refine WL.op (v := .int .i64 (k : Int)) rfl rfl rfl (Ex.move rfl rfl) ?_
      refine WL.op (v := .int .i64 (k : Int)) rfl rfl rfl (Ex.assign rfl rfl) ?_
      refine WL.nil ?_
      refine then_normal ?_
      refine WP.seq ?_
      obtain ⟨b23, po24, x25, hx26, hi27, hS⟩ := hS.elem (α := At) (k := k) (.head _) under22 tySz71 (by omega)
      obtain ⟨b28, po29, x30, hx31, hi32, hS⟩ := hS.elem (α := At) (k := k) (.tail _ (.tail _ (.head _))) under22 tySz71 (by omega)
      refine WP.drawL 9 [(fun u_ _ => u_ = va), (fun u_ _ => u_ = .int .i64 (k : Int)), (fun u_ _ => u_ = .pointer (some ⟨b23, po24, none⟩)), (fun u_ _ => u_ = .agg x25.enc), (fun u_ _ => u_ = vb), (fun u_ _ => u_ = .int .i64 (k : Int)), (fun u_ _ => u_ = .pointer (some ⟨b28, po29, none⟩)), (fun u_ _ => u_ = .agg x30.enc), (fun u_ _ => u_ = .bool (!decide (x25 = x30)))] (fun vs => (24, vs 8) :: (23, vs 7) :: (22, vs 6) :: (21, vs 5) :: (20, vs 4) :: (19, vs 3) :: (18, vs 2) :: (17, vs 1) :: (16, vs 0) :: _) ⟨fun _ _ _ _ h => h, fun _ _ _ _ h => h, fun _ _ _ _ h => h, fun _ _ _ _ h => h, fun _ _ _ _ h => h, fun _ _ _ _ h => h, fun _ _ _ _ h => h, fun _ _ _ _ h => h, fun _ _ _ _ h => h, trivial⟩ (by kernel_rfl) (fun _ => rfl) ⟨?_, ?_, ?_, ?_, ?_, ?_, ?_, ?_, ?_, trivial⟩ ?_
      ·
        intro vs W hE hp
        exact dr_plain rfl (dr_ex (v := va) (Ex.move rfl rfl) (Bw.refl _) rfl)
      ·
        intro vs W hE hp
        exact dr_plain rfl (dr_ex (v := .int .i64 (k : Int)) (Ex.move rfl rfl) (Bw.refl _) rfl)
      ·
        intro vs W hE hp
        have p0 := hp 0 (by kernel_rfl)
        simp only [List.getD_cons_zero, List.getD_cons_succ] at p0
        have p1 := hp 1 (by kernel_rfl)
        simp only [List.getD_cons_zero, List.getD_cons_succ] at p1
        exact dr_plain rfl (dr_ex (v := .pointer (some ⟨b23, po24, none⟩)) (Ex.indexC hi27 rfl p0 p1) (Bw.refl _) rfl)
      ·
        intro vs W hE hp
        have p2 := hp 2 (by kernel_rfl)
        simp only [List.getD_cons_zero, List.getD_cons_succ] at p2
        exact dr_plain rfl (dr_ex (v := .agg x25.enc) (Ex.loadA tyAgg71 rfl p2 (Reads.sub (cs := x25.enc.toList) ((hS.ext hE).get 1 rfl) 0 (ds := x25.enc.toList) rfl) rfl) (Bw.refl _) rfl)
      ·
        intro vs W hE hp
        exact dr_plain rfl (dr_ex (v := vb) (Ex.move rfl rfl) (Bw.refl _) rfl)
      ·
        intro vs W hE hp
        exact dr_plain rfl (dr_ex (v := .int .i64 (k : Int)) (Ex.move rfl rfl) (Bw.refl _) rfl)
      ·
        intro vs W hE hp
        have p4 := hp 4 (by kernel_rfl)
        simp only [List.getD_cons_zero, List.getD_cons_succ] at p4
        have p5 := hp 5 (by kernel_rfl)
        simp only [List.getD_cons_zero, List.getD_cons_succ] at p5
        exact dr_plain rfl (dr_ex (v := .pointer (some ⟨b28, po29, none⟩)) (Ex.indexC hi32 rfl p4 p5) (Bw.refl _) rfl)
      ·
        intro vs W hE hp
        have p6 := hp 6 (by kernel_rfl)
        simp only [List.getD_cons_zero, List.getD_cons_succ] at p6
        exact dr_plain rfl (dr_ex (v := .agg x30.enc) (Ex.loadA tyAgg71 rfl p6 (Reads.sub (cs := x30.enc.toList) ((hS.ext hE).get 0 rfl) 0 (ds := x30.enc.toList) rfl) rfl) (Bw.refl _) rfl)
      ·
        intro vs W hE hp
        have p3 := hp 3 (by kernel_rfl)
        simp only [List.getD_cons_zero, List.getD_cons_succ] at p3
        have p7 := hp 7 (by kernel_rfl)
        simp only [List.getD_cons_zero, List.getD_cons_succ] at p7
        exact dr_plain rfl (dr_ex (v := .bool (!decide (x25 = x30))) (Ex.binop rfl p3 p7 (neqlS71 _ _ _ _ _)) (Bw.refl _) rfl)
      intro vs W33 hE hv
      have hS0 := hS; replace hS := hS.ext hE
      have p0 : vs 0 = va := hv 0 (by decide)
      have p1 : vs 1 = .int .i64 (k : Int) := hv 1 (by decide)
      have p2 : vs 2 = .pointer (some ⟨b23, po24, none⟩) := hv 2 (by decide)
      have p3 : vs 3 = .agg x25.enc := hv 3 (by decide)
      have p4 : vs 4 = vb := hv 4 (by decide)
      have p5 : vs 5 = .int .i64 (k : Int) := hv 5 (by decide)
      have p6 : vs 6 = .pointer (some ⟨b28, po29, none⟩) := hv 6 (by decide)
      have p7 : vs 7 = .agg x30.enc := hv 7 (by decide)
      have p8 : vs 8 = .bool (!decide (x25 = x30)) := hv 8 (by decide)
      refine WL.keep (k := [(16, va), (17, .int .i64 (k : Int)), (18, .pointer (some ⟨b23, po24, none⟩)), (19, .agg x25.enc), (20, vb), (21, .int .i64 (k : Int)), (22, .pointer (some ⟨b28, po29, none⟩)), (23, .agg x30.enc), (24, .bool (!decide (x25 = x30)))]) ⟨p0, p1, p2, p3, p4, p5, p6, p7, p8, trivial⟩ ?_
      refine WL.nil ?_
      refine then_normal ?_
      refine WP.cond (b := !decide (x25 = x30)) rfl (fun hc34 => ?_) (fun hc34 => ?_)
      ·
        have hc34' : ¬ (x25 = x30) := by simpa using hc34
        refine WP.seq ?_
        refine WP.region ?_
        refine WL.op (v := .bool false) rfl rfl rfl (Ex.assign rfl rfl) ?_
        refine WL.nil ?_
        refine then_normal ?_
        refine WP.ret ?_
        refine inBlock_ret (then_ret (then_ret (inBlock_ret (then_ret (?_)))))
        refine rt1 (v := .bool false) rfl rfl ?_
        exact ⟨retb (same_not hx26 hx31 hc34'), hS.bw⟩
      ·
        have hc34' : x25 = x30 := by simpa using hc34
        refine WP.skip ?_
        refine inBlock_normal ?_
        refine then_normal ?_
        refine WP.region ?_
        refine WL.op (v := .int .i64 ((k + 1 : Nat) : Int)) rfl rfl rfl (Ex.add rfl rfl rfl (wrap_succ (by omega))) ?_
        refine WL.op (v := .int .i64 ((k + 1 : Nat) : Int)) rfl rfl rfl (Ex.move rfl rfl) ?_
        refine WL.nil ?_
        refine then_normal ?_
        exact ⟨_, ⟨k + 1, _, fr_keep ⟨rfl, rfl, rfl, rfl, trivial⟩, rfl, by omega, hS.drop 0 2, same_next heq hx26 hx31 hc34'⟩, by simp only [id]; omega⟩
    ·
      have hc22' : ¬ ((k : Int) < (la.length : Int)) := by simpa using hc22
      refine WP.exit ?_
      refine then_exit (then_exit (inBlock_same (?_)))
      refine then_normal ?_
      refine WP.seq ?_
      refine WP.region ?_
      refine WL.op (v := .bool true) rfl rfl rfl (Ex.assign rfl rfl) ?_
      refine WL.nil ?_
      refine then_normal ?_
      refine WP.ret ?_
      refine ?_
      refine rt1 (v := .bool true) rfl rfl ?_
      exact ⟨retb (by first | exact same_len (by assumption) | exact same_end heq (by omega) (by omega)), hS.bw⟩
set_option maxRecDepth 100000 in
set_option maxHeartbeats 1000000 in
theorem c_latRight (va : Value) (l : List At) (w : World) (hv : Sl w va l) :
    Calls Try.prog 24 #[va] w fun e w' => e = .returned (.bool (latRight l)) ∧ Bw w w' := by
  have hS := St.begin (w := w) (pins := pinSl va l :: []) ⟨hv, trivial⟩
  refine enter (n := 30) Try.func24 rfl rfl (Nat.le_of_ble_eq_true rfl) (l := [(0, va)]) rfl ?_
  refine WP.seq ?_
  refine WP.region ?_
  refine WL.op (v := .bool false) rfl rfl rfl (Ex.assign rfl rfl) ?_
  refine WL.nil ?_
  refine then_normal ?_
  refine WP.seq ?_
  refine WP.seq ?_
  refine WP.region ?_
  refine WL.op (v := va) rfl rfl rfl (Ex.move rfl rfl) ?_
  have hl35 : l.length < 4611686018427387904 := (hS.mem (.head _) : Sl _ _ _).lt
  refine WL.op (v := .int .i64 (l.length : Int)) rfl rfl rfl (Ex.lenSl (l := l) ⟨_, under22⟩ rfl rfl (hS.mem (.head _))) ?_
  refine WL.op (v := .int .i64 0) rfl rfl rfl (Ex.move rfl rfl) ?_
  refine WL.nil ?_
  refine then_normal ?_
  refine WP.block ?_
  refine WP.loop (fun (μ : Nat) a W => ∃ (k : Nat), ∃ (l0 : Fr), a = fr 30 [] ([(0, va), (5, va), (6, .int .i64 (l.length : Int)), (7, .int .i64 (k : Int))] ++ l0) ∧ μ = l.length - k ∧ k ≤ l.length ∧ St w ([]) (pinSl va l :: []) W ∧ ((List.range k).all (goodAt l) = true)) id _ ⟨0, _, fr_keep ⟨rfl, rfl, rfl, rfl, trivial⟩, rfl, by omega, hS, rfl⟩ ?_
  rintro μ a W36 ⟨k, l0, rfl, rfl, hk, hS, hall⟩
  refine WP.seq ?_
  refine WP.region ?_
  refine WL.op (v := .bool (decide ((k : Int) < (l.length : Int)))) rfl rfl rfl (Ex.lt rfl rfl rfl) ?_
  refine WL.nil ?_
  refine then_normal ?_
  refine WP.seq ?_
  refine WP.cond (b := decide ((k : Int) < (l.length : Int))) rfl (fun hc37 => ?_) (fun hc37 => ?_)
  ·
    have hc37' : (k : Int) < (l.length : Int) := by simpa using hc37
    refine WP.skip ?_
    refine then_normal ?_
    refine WP.seq ?_
    refine WP.block ?_
    refine WP.seq ?_
    refine WP.region ?_
    refine WL.op (v := .int .i64 (k : Int)) rfl rfl rfl (Ex.move rfl rfl) ?_
    obtain ⟨b38, po39, x40, hx41, hi42, hS⟩ := hS.elem (α := At) (k := k) (.head _) under22 tySz71 (by omega)
    refine WL.op (v := .pointer (some ⟨b38, po39, none⟩)) rfl rfl rfl (Ex.indexC hi42 rfl rfl rfl) ?_
    refine WL.op (v := .agg x40.enc) rfl rfl rfl (Ex.loadA tyAgg71 rfl rfl (Reads.sub (cs := x40.enc.toList) (hS.get 0 rfl) 0 (ds := x40.enc.toList) rfl) rfl) ?_
    refine WL.alloc zv71 hS rfl rfl rfl rfl (fun b43 W44 hS => ?_)
    refine WL.op (v := .int .i64 (k : Int)) rfl rfl rfl (Ex.assign rfl rfl) ?_
    refine WL.store tySz71 hS 0 rfl rfl rfl rfl rfl rfl rfl rfl rfl (C' := x40.enc) rfl ((b43, .cells x40.enc 71) :: []) rfl (fun W45 hS => ?_)
    refine WL.nil ?_
    refine then_normal ?_
    refine WP.seq ?_
    rcases Bool.eq_false_or_eq_true (!x40.right) with hg46 | hg46
    ·
      have hc47 : x40.right = false := by simpa using hg46
      refine WP.drawL 17 [(fun u_ _ => u_ = .agg x40.enc), (fun u_ _ => u_ = .bool x40.right), (fun u_ _ => u_ = .bool (!x40.right)), (fun u_ _ => u_ = .bool (!x40.right)), (fun u_ _ => u_ = undef), (fun u_ _ => u_ = undef), (fun u_ _ => u_ = undef), (fun u_ _ => u_ = undef), (fun u_ _ => u_ = undef), (fun u_ _ => u_ = undef), (fun u_ _ => u_ = undef), (fun u_ _ => u_ = undef), (fun u_ _ => u_ = undef), (fun u_ _ => u_ = undef), (fun u_ _ => u_ = undef), (fun u_ _ => u_ = undef), (fun u_ _ => u_ = .bool true)] (fun vs => (28, vs 16) :: (27, vs 15) :: (26, vs 14) :: (25, vs 13) :: (24, vs 12) :: (23, vs 11) :: (22, vs 10) :: (21, vs 9) :: (20, vs 8) :: (19, vs 7) :: (18, vs 6) :: (17, vs 5) :: (16, vs 4) :: (15, vs 3) :: (14, vs 2) :: (13, vs 1) :: (12, vs 0) :: _) ⟨fun _ _ _ _ h => h, fun _ _ _ _ h => h, fun _ _ _ _ h => h, fun _ _ _ _ h => h, fun _ _ _ _ h => h, fun _ _ _ _ h => h, fun _ _ _ _ h => h, fun _ _ _ _ h => h, fun _ _ _ _ h => h, fun _ _ _ _ h => h, fun _ _ _ _ h => h, fun _ _ _ _ h => h, fun _ _ _ _ h => h, fun _ _ _ _ h => h, fun _ _ _ _ h => h, fun _ _ _ _ h => h, fun _ _ _ _ h => h, trivial⟩ (by kernel_rfl) (fun _ => rfl) ⟨?_, ?_, ?_, ?_, ?_, ?_, ?_, ?_, ?_, ?_, ?_, ?_, ?_, ?_, ?_, ?_, ?_, trivial⟩ ?_
      ·
        intro vs W hE hp
        exact dr_plain rfl (dr_ex (v := .agg x40.enc) (Ex.loadA tyAgg71 rfl rfl (Reads.of_block ((hS.ext hE).at 0 rfl) 0 x40.enc.toList rfl) rfl) (Bw.refl _) rfl)
      ·
        intro vs W hE hp
        have p0 := hp 0 (by kernel_rfl)
        simp only [List.getD_cons_zero, List.getD_cons_succ] at p0
        exact dr_plain rfl (dr_callS (v := .bool x40.right) (enterS eg79 (args := [.agg x40.enc]) rfl rfl rfl (l1 p0)) (c_atright x40 _) (fun _ => rfl))
      ·
        intro vs W hE hp
        have p1 := hp 1 (by kernel_rfl)
        simp only [List.getD_cons_zero, List.getD_cons_succ] at p1
        exact dr_plain rfl (dr_ex (v := .bool (!x40.right)) (Ex.not rfl p1) (Bw.refl _) rfl)
      ·
        intro vs W hE hp
        have p2 := hp 2 (by kernel_rfl)
        simp only [List.getD_cons_zero, List.getD_cons_succ] at p2
        exact dr_plain rfl (dr_ex (v := .bool (!x40.right)) (Ex.move rfl p2) (Bw.refl _) rfl)
      ·
        intro vs W hE hp
        have p3 := hp 3 (by kernel_rfl)
        simp only [List.getD_cons_zero, List.getD_cons_succ] at p3
        exact dr_off rfl rfl rfl p3 (congrArg Value.bool hg46) rfl rfl
      ·
        intro vs W hE hp
        have p3 := hp 3 (by kernel_rfl)
        simp only [List.getD_cons_zero, List.getD_cons_succ] at p3
        have p4 := hp 4 (by kernel_rfl)
        simp only [List.getD_cons_zero, List.getD_cons_succ] at p4
        exact dr_off rfl rfl rfl p3 (congrArg Value.bool hg46) rfl rfl
      ·
        intro vs W hE hp
        have p3 := hp 3 (by kernel_rfl)
        simp only [List.getD_cons_zero, List.getD_cons_succ] at p3
        have p5 := hp 5 (by kernel_rfl)
        simp only [List.getD_cons_zero, List.getD_cons_succ] at p5
        exact dr_off rfl rfl rfl p3 (congrArg Value.bool hg46) rfl rfl
      ·
        intro vs W hE hp
        have p6 := hp 6 (by kernel_rfl)
        simp only [List.getD_cons_zero, List.getD_cons_succ] at p6
        exact dr_offU rfl rfl rfl p6 rfl
      ·
        intro vs W hE hp
        have p6 := hp 6 (by kernel_rfl)
        simp only [List.getD_cons_zero, List.getD_cons_succ] at p6
        exact dr_offU rfl rfl rfl p6 rfl
      ·
        intro vs W hE hp
        have p6 := hp 6 (by kernel_rfl)
        simp only [List.getD_cons_zero, List.getD_cons_succ] at p6
        have p8 := hp 8 (by kernel_rfl)
        simp only [List.getD_cons_zero, List.getD_cons_succ] at p8
        exact dr_offU rfl rfl rfl p6 rfl
      ·
        intro vs W hE hp
        have p6 := hp 6 (by kernel_rfl)
        simp only [List.getD_cons_zero, List.getD_cons_succ] at p6
        have p7 := hp 7 (by kernel_rfl)
        simp only [List.getD_cons_zero, List.getD_cons_succ] at p7
        have p9 := hp 9 (by kernel_rfl)
        simp only [List.getD_cons_zero, List.getD_cons_succ] at p9
        exact dr_offU rfl rfl rfl p6 rfl
      ·
        intro vs W hE hp
        have p6 := hp 6 (by kernel_rfl)
        simp only [List.getD_cons_zero, List.getD_cons_succ] at p6
        have p10 := hp 10 (by kernel_rfl)
        simp only [List.getD_cons_zero, List.getD_cons_succ] at p10
        exact dr_offU rfl rfl rfl p6 rfl
      ·
        intro vs W hE hp
        have p6 := hp 6 (by kernel_rfl)
        simp only [List.getD_cons_zero, List.getD_cons_succ] at p6
        exact dr_offU rfl rfl rfl p6 rfl
      ·
        intro vs W hE hp
        have p6 := hp 6 (by kernel_rfl)
        simp only [List.getD_cons_zero, List.getD_cons_succ] at p6
        have p11 := hp 11 (by kernel_rfl)
        simp only [List.getD_cons_zero, List.getD_cons_succ] at p11
        have p12 := hp 12 (by kernel_rfl)
        simp only [List.getD_cons_zero, List.getD_cons_succ] at p12
        exact dr_offU rfl rfl rfl p6 rfl
      ·
        intro vs W hE hp
        have p6 := hp 6 (by kernel_rfl)
        simp only [List.getD_cons_zero, List.getD_cons_succ] at p6
        have p13 := hp 13 (by kernel_rfl)
        simp only [List.getD_cons_zero, List.getD_cons_succ] at p13
        exact dr_offU rfl rfl rfl p6 rfl
      ·
        intro vs W hE hp
        have p3 := hp 3 (by kernel_rfl)
        simp only [List.getD_cons_zero, List.getD_cons_succ] at p3
        have p6 := hp 6 (by kernel_rfl)
        simp only [List.getD_cons_zero, List.getD_cons_succ] at p6
        have p14 := hp 14 (by kernel_rfl)
        simp only [List.getD_cons_zero, List.getD_cons_succ] at p14
        exact dr_off rfl rfl rfl p3 (congrArg Value.bool hg46) rfl rfl
      ·
        intro vs W hE hp
        have p3 := hp 3 (by kernel_rfl)
        simp only [List.getD_cons_zero, List.getD_cons_succ] at p3
        have p15 := hp 15 (by kernel_rfl)
        simp only [List.getD_cons_zero, List.getD_cons_succ] at p15
        exact dr_plain rfl (dr_ex (v := .bool true) (Ex.pickT rfl (p3.trans (congrArg Value.bool hg46)) rfl) (Bw.refl _) rfl)
      intro vs W48 hE hv
      have hS0 := hS; replace hS := hS.ext hE
      have p0 : vs 0 = .agg x40.enc := hv 0 (by decide)
      have p1 : vs 1 = .bool x40.right := hv 1 (by decide)
      have p2 : vs 2 = .bool (!x40.right) := hv 2 (by decide)
      have p3 : vs 3 = .bool (!x40.right) := hv 3 (by decide)
      have p16 : vs 16 = .bool true := hv 16 (by decide)
      refine WL.keep (k := [(12, .agg x40.enc), (13, .bool x40.right), (14, .bool (!x40.right)), (15, .bool (!x40.right)), (28, .bool true)]) ⟨p0, p1, p2, p3, p16, trivial⟩ ?_
      refine WL.nil ?_
      refine then_normal ?_
      refine WP.condT rfl ?_
      refine WP.seq ?_
      refine WP.region ?_
      refine WL.op (v := .bool false) rfl rfl rfl (Ex.assign rfl rfl) ?_
      refine WL.nil ?_
      refine then_normal ?_
      refine WP.ret ?_
      refine inBlock_ret (then_ret (then_ret (inBlock_ret (then_ret (?_)))))
      refine rt1 (v := .bool false) rfl rfl ?_
      exact ⟨retb (bd_right hx41 (by assumption)), hS.bw⟩
    ·
      have hc49 : x40.right = true := by simpa using hg46
      rcases Bool.eq_false_or_eq_true (decide (0 < (k : Int))) with hg50 | hg50
      ·
        have hg50' : 0 < (k : Int) := by simpa using hg50
        obtain ⟨b51, po52, x53, hx54, hi55, hS⟩ := hS.elem (α := At) (k := k - 1) (.tail _ (.head _)) under22 tySz71 (by omega)
        refine WP.drawL 17 [(fun u_ _ => u_ = .agg x40.enc), (fun u_ _ => u_ = .bool x40.right), (fun u_ _ => u_ = .bool (!x40.right)), (fun u_ _ => u_ = .bool (!x40.right)), (fun u_ _ => u_ = .int .i64 (k : Int)), (fun u_ _ => u_ = .bool (decide (0 < (k : Int)))), (fun u_ _ => u_ = .bool (decide (0 < (k : Int)))), (fun u_ _ => u_ = va), (fun u_ _ => u_ = .int .i64 (k : Int)), (fun u_ _ => u_ = .int .i64 ((k - 1 : Nat) : Int)), (fun u_ _ => u_ = .pointer (some ⟨b51, po52, none⟩)), (fun u_ _ => u_ = .agg x53.enc), (fun u_ _ => u_ = .agg x40.enc), (fun u_ _ => u_ = .int .i64 (x53.k.ord x40.k)), (fun u_ _ => u_ = .bool (decide (0 ≤ x53.k.ord x40.k))), (fun u_ _ => u_ = .bool (decide (0 ≤ x53.k.ord x40.k))), (fun u_ _ => u_ = .bool (decide (0 ≤ x53.k.ord x40.k)))] (fun vs => (28, vs 16) :: (27, vs 15) :: (26, vs 14) :: (25, vs 13) :: (24, vs 12) :: (23, vs 11) :: (22, vs 10) :: (21, vs 9) :: (20, vs 8) :: (19, vs 7) :: (18, vs 6) :: (17, vs 5) :: (16, vs 4) :: (15, vs 3) :: (14, vs 2) :: (13, vs 1) :: (12, vs 0) :: _) ⟨fun _ _ _ _ h => h, fun _ _ _ _ h => h, fun _ _ _ _ h => h, fun _ _ _ _ h => h, fun _ _ _ _ h => h, fun _ _ _ _ h => h, fun _ _ _ _ h => h, fun _ _ _ _ h => h, fun _ _ _ _ h => h, fun _ _ _ _ h => h, fun _ _ _ _ h => h, fun _ _ _ _ h => h, fun _ _ _ _ h => h, fun _ _ _ _ h => h, fun _ _ _ _ h => h, fun _ _ _ _ h => h, fun _ _ _ _ h => h, trivial⟩ (by kernel_rfl) (fun _ => rfl) ⟨?_, ?_, ?_, ?_, ?_, ?_, ?_, ?_, ?_, ?_, ?_, ?_, ?_, ?_, ?_, ?_, ?_, trivial⟩ ?_
        ·
          intro vs W hE hp
          exact dr_plain rfl (dr_ex (v := .agg x40.enc) (Ex.loadA tyAgg71 rfl rfl (Reads.of_block ((hS.ext hE).at 0 rfl) 0 x40.enc.toList rfl) rfl) (Bw.refl _) rfl)
        ·
          intro vs W hE hp
          have p0 := hp 0 (by kernel_rfl)
          simp only [List.getD_cons_zero, List.getD_cons_succ] at p0
          exact dr_plain rfl (dr_callS (v := .bool x40.right) (enterS eg79 (args := [.agg x40.enc]) rfl rfl rfl (l1 p0)) (c_atright x40 _) (fun _ => rfl))
        ·
          intro vs W hE hp
          have p1 := hp 1 (by kernel_rfl)
          simp only [List.getD_cons_zero, List.getD_cons_succ] at p1
          exact dr_plain rfl (dr_ex (v := .bool (!x40.right)) (Ex.not rfl p1) (Bw.refl _) rfl)
        ·
          intro vs W hE hp
          have p2 := hp 2 (by kernel_rfl)
          simp only [List.getD_cons_zero, List.getD_cons_succ] at p2
          exact dr_plain rfl (dr_ex (v := .bool (!x40.right)) (Ex.move rfl p2) (Bw.refl _) rfl)
        ·
          intro vs W hE hp
          have p3 := hp 3 (by kernel_rfl)
          simp only [List.getD_cons_zero, List.getD_cons_succ] at p3
          exact dr_on rfl rfl rfl p3 (congrArg Value.bool hg46) (dr_ex (v := .int .i64 (k : Int)) (Ex.move rfl rfl) (Bw.refl _) rfl)
        ·
          intro vs W hE hp
          have p3 := hp 3 (by kernel_rfl)
          simp only [List.getD_cons_zero, List.getD_cons_succ] at p3
          have p4 := hp 4 (by kernel_rfl)
          simp only [List.getD_cons_zero, List.getD_cons_succ] at p4
          exact dr_on rfl rfl rfl p3 (congrArg Value.bool hg46) (dr_ex (v := .bool (decide (0 < (k : Int)))) (Ex.gt rfl p4 rfl) (Bw.refl _) rfl)
        ·
          intro vs W hE hp
          have p3 := hp 3 (by kernel_rfl)
          simp only [List.getD_cons_zero, List.getD_cons_succ] at p3
          have p5 := hp 5 (by kernel_rfl)
          simp only [List.getD_cons_zero, List.getD_cons_succ] at p5
          exact dr_on rfl rfl rfl p3 (congrArg Value.bool hg46) (dr_ex (v := .bool (decide (0 < (k : Int)))) (Ex.move rfl p5) (Bw.refl _) rfl)
        ·
          intro vs W hE hp
          have p6 := hp 6 (by kernel_rfl)
          simp only [List.getD_cons_zero, List.getD_cons_succ] at p6
          exact dr_on rfl rfl rfl p6 (congrArg Value.bool hg50) (dr_ex (v := va) (Ex.move rfl rfl) (Bw.refl _) rfl)
        ·
          intro vs W hE hp
          have p6 := hp 6 (by kernel_rfl)
          simp only [List.getD_cons_zero, List.getD_cons_succ] at p6
          exact dr_on rfl rfl rfl p6 (congrArg Value.bool hg50) (dr_ex (v := .int .i64 (k : Int)) (Ex.move rfl rfl) (Bw.refl _) rfl)
        ·
          intro vs W hE hp
          have p6 := hp 6 (by kernel_rfl)
          simp only [List.getD_cons_zero, List.getD_cons_succ] at p6
          have p8 := hp 8 (by kernel_rfl)
          simp only [List.getD_cons_zero, List.getD_cons_succ] at p8
          exact dr_on rfl rfl rfl p6 (congrArg Value.bool hg50) (dr_ex (v := .int .i64 ((k - 1 : Nat) : Int)) (Ex.sub rfl p8 rfl (wrap_pred (by omega) (by omega))) (Bw.refl _) rfl)
        ·
          intro vs W hE hp
          have p6 := hp 6 (by kernel_rfl)
          simp only [List.getD_cons_zero, List.getD_cons_succ] at p6
          have p7 := hp 7 (by kernel_rfl)
          simp only [List.getD_cons_zero, List.getD_cons_succ] at p7
          have p9 := hp 9 (by kernel_rfl)
          simp only [List.getD_cons_zero, List.getD_cons_succ] at p9
          exact dr_on rfl rfl rfl p6 (congrArg Value.bool hg50) (dr_ex (v := .pointer (some ⟨b51, po52, none⟩)) (Ex.indexC hi55 rfl p7 p9) (Bw.refl _) rfl)
        ·
          intro vs W hE hp
          have p6 := hp 6 (by kernel_rfl)
          simp only [List.getD_cons_zero, List.getD_cons_succ] at p6
          have p10 := hp 10 (by kernel_rfl)
          simp only [List.getD_cons_zero, List.getD_cons_succ] at p10
          exact dr_on rfl rfl rfl p6 (congrArg Value.bool hg50) (dr_ex (v := .agg x53.enc) (Ex.loadA tyAgg71 rfl p10 (Reads.sub (cs := x53.enc.toList) ((hS.ext hE).get 0 rfl) 0 (ds := x53.enc.toList) rfl) rfl) (Bw.refl _) rfl)
        ·
          intro vs W hE hp
          have p6 := hp 6 (by kernel_rfl)
          simp only [List.getD_cons_zero, List.getD_cons_succ] at p6
          exact dr_on rfl rfl rfl p6 (congrArg Value.bool hg50) (dr_ex (v := .agg x40.enc) (Ex.loadA tyAgg71 rfl rfl (Reads.of_block ((hS.ext hE).at 0 rfl) 0 x40.enc.toList rfl) rfl) (Bw.refl _) rfl)
        ·
          intro vs W hE hp
          have p6 := hp 6 (by kernel_rfl)
          simp only [List.getD_cons_zero, List.getD_cons_succ] at p6
          have p11 := hp 11 (by kernel_rfl)
          simp only [List.getD_cons_zero, List.getD_cons_succ] at p11
          have p12 := hp 12 (by kernel_rfl)
          simp only [List.getD_cons_zero, List.getD_cons_succ] at p12
          exact dr_on rfl rfl rfl p6 (congrArg Value.bool hg50) (dr_callS (v := .int .i64 (x53.k.ord x40.k)) (enterS eg80 (args := [.agg x53.enc, .agg x40.enc]) rfl rfl rfl (l2 p11 p12)) (c_order x53 x40 _) (fun _ => rfl))
        ·
          intro vs W hE hp
          have p6 := hp 6 (by kernel_rfl)
          simp only [List.getD_cons_zero, List.getD_cons_succ] at p6
          have p13 := hp 13 (by kernel_rfl)
          simp only [List.getD_cons_zero, List.getD_cons_succ] at p13
          exact dr_on rfl rfl rfl p6 (congrArg Value.bool hg50) (dr_ex (v := .bool (decide (0 ≤ x53.k.ord x40.k))) (Ex.ge rfl p13 rfl) (Bw.refl _) rfl)
        ·
          intro vs W hE hp
          have p3 := hp 3 (by kernel_rfl)
          simp only [List.getD_cons_zero, List.getD_cons_succ] at p3
          have p6 := hp 6 (by kernel_rfl)
          simp only [List.getD_cons_zero, List.getD_cons_succ] at p6
          have p14 := hp 14 (by kernel_rfl)
          simp only [List.getD_cons_zero, List.getD_cons_succ] at p14
          exact dr_on rfl rfl rfl p3 (congrArg Value.bool hg46) (dr_ex (v := .bool (decide (0 ≤ x53.k.ord x40.k))) (Ex.pickT rfl (p6.trans (congrArg Value.bool hg50)) p14) (Bw.refl _) rfl)
        ·
          intro vs W hE hp
          have p3 := hp 3 (by kernel_rfl)
          simp only [List.getD_cons_zero, List.getD_cons_succ] at p3
          have p15 := hp 15 (by kernel_rfl)
          simp only [List.getD_cons_zero, List.getD_cons_succ] at p15
          exact dr_plain rfl (dr_ex (v := .bool (decide (0 ≤ x53.k.ord x40.k))) (Ex.pickF rfl (p3.trans (congrArg Value.bool hg46)) p15) (Bw.refl _) rfl)
        intro vs W56 hE hv
        have hS0 := hS; replace hS := hS.ext hE
        have p0 : vs 0 = .agg x40.enc := hv 0 (by decide)
        have p1 : vs 1 = .bool x40.right := hv 1 (by decide)
        have p2 : vs 2 = .bool (!x40.right) := hv 2 (by decide)
        have p3 : vs 3 = .bool (!x40.right) := hv 3 (by decide)
        have p4 : vs 4 = .int .i64 (k : Int) := hv 4 (by decide)
        have p5 : vs 5 = .bool (decide (0 < (k : Int))) := hv 5 (by decide)
        have p6 : vs 6 = .bool (decide (0 < (k : Int))) := hv 6 (by decide)
        have p7 : vs 7 = va := hv 7 (by decide)
        have p8 : vs 8 = .int .i64 (k : Int) := hv 8 (by decide)
        have p9 : vs 9 = .int .i64 ((k - 1 : Nat) : Int) := hv 9 (by decide)
        have p10 : vs 10 = .pointer (some ⟨b51, po52, none⟩) := hv 10 (by decide)
        have p11 : vs 11 = .agg x53.enc := hv 11 (by decide)
        have p12 : vs 12 = .agg x40.enc := hv 12 (by decide)
        have p13 : vs 13 = .int .i64 (x53.k.ord x40.k) := hv 13 (by decide)
        have p14 : vs 14 = .bool (decide (0 ≤ x53.k.ord x40.k)) := hv 14 (by decide)
        have p15 : vs 15 = .bool (decide (0 ≤ x53.k.ord x40.k)) := hv 15 (by decide)
        have p16 : vs 16 = .bool (decide (0 ≤ x53.k.ord x40.k)) := hv 16 (by decide)
        refine WL.keep (k := [(12, .agg x40.enc), (13, .bool x40.right), (14, .bool (!x40.right)), (15, .bool (!x40.right)), (16, .int .i64 (k : Int)), (17, .bool (decide (0 < (k : Int)))), (18, .bool (decide (0 < (k : Int)))), (19, va), (20, .int .i64 (k : Int)), (21, .int .i64 ((k - 1 : Nat) : Int)), (22, .pointer (some ⟨b51, po52, none⟩)), (23, .agg x53.enc), (24, .agg x40.enc), (25, .int .i64 (x53.k.ord x40.k)), (26, .bool (decide (0 ≤ x53.k.ord x40.k))), (27, .bool (decide (0 ≤ x53.k.ord x40.k))), (28, .bool (decide (0 ≤ x53.k.ord x40.k)))]) ⟨p0, p1, p2, p3, p4, p5, p6, p7, p8, p9, p10, p11, p12, p13, p14, p15, p16, trivial⟩ ?_
        refine WL.nil ?_
        refine then_normal ?_
        refine WP.cond (b := decide (0 ≤ x53.k.ord x40.k)) rfl (fun hc57 => ?_) (fun hc57 => ?_)
        ·
          have hc57' : 0 ≤ x53.k.ord x40.k := by simpa using hc57
          refine WP.seq ?_
          refine WP.region ?_
          refine WL.op (v := .bool false) rfl rfl rfl (Ex.assign rfl rfl) ?_
          refine WL.nil ?_
          refine then_normal ?_
          refine WP.ret ?_
          refine inBlock_ret (then_ret (then_ret (inBlock_ret (then_ret (?_)))))
          refine rt1 (v := .bool false) rfl rfl ?_
          exact ⟨retb (bd_later hx41 hx54 (by omega) (by assumption)), hS.bw⟩
        ·
          have hc57' : ¬ (0 ≤ x53.k.ord x40.k) := by simpa using hc57
          refine WP.skip ?_
          refine inBlock_normal ?_
          refine then_normal ?_
          refine WP.region ?_
          refine WL.op (v := .int .i64 ((k + 1 : Nat) : Int)) rfl rfl rfl (Ex.add rfl rfl rfl (wrap_succ (by omega))) ?_
          refine WL.op (v := .int .i64 ((k + 1 : Nat) : Int)) rfl rfl rfl (Ex.move rfl rfl) ?_
          refine WL.nil ?_
          refine then_normal ?_
          exact ⟨_, ⟨k + 1, _, fr_keep ⟨rfl, rfl, rfl, rfl, trivial⟩, rfl, by omega, hS.drop 1 2, good_succ hall (gd_later hx41 hc49 hx54 (by assumption))⟩, by simp only [id]; omega⟩
      ·
        have hg50' : ¬ (0 < (k : Int)) := by simpa using hg50
        refine WP.drawL 17 [(fun u_ _ => u_ = .agg x40.enc), (fun u_ _ => u_ = .bool x40.right), (fun u_ _ => u_ = .bool (!x40.right)), (fun u_ _ => u_ = .bool (!x40.right)), (fun u_ _ => u_ = .int .i64 (k : Int)), (fun u_ _ => u_ = .bool (decide (0 < (k : Int)))), (fun u_ _ => u_ = .bool (decide (0 < (k : Int)))), (fun u_ _ => u_ = undef), (fun u_ _ => u_ = undef), (fun u_ _ => u_ = undef), (fun u_ _ => u_ = undef), (fun u_ _ => u_ = undef), (fun u_ _ => u_ = undef), (fun u_ _ => u_ = undef), (fun u_ _ => u_ = undef), (fun u_ _ => u_ = .bool false), (fun u_ _ => u_ = .bool false)] (fun vs => (28, vs 16) :: (27, vs 15) :: (26, vs 14) :: (25, vs 13) :: (24, vs 12) :: (23, vs 11) :: (22, vs 10) :: (21, vs 9) :: (20, vs 8) :: (19, vs 7) :: (18, vs 6) :: (17, vs 5) :: (16, vs 4) :: (15, vs 3) :: (14, vs 2) :: (13, vs 1) :: (12, vs 0) :: _) ⟨fun _ _ _ _ h => h, fun _ _ _ _ h => h, fun _ _ _ _ h => h, fun _ _ _ _ h => h, fun _ _ _ _ h => h, fun _ _ _ _ h => h, fun _ _ _ _ h => h, fun _ _ _ _ h => h, fun _ _ _ _ h => h, fun _ _ _ _ h => h, fun _ _ _ _ h => h, fun _ _ _ _ h => h, fun _ _ _ _ h => h, fun _ _ _ _ h => h, fun _ _ _ _ h => h, fun _ _ _ _ h => h, fun _ _ _ _ h => h, trivial⟩ (by kernel_rfl) (fun _ => rfl) ⟨?_, ?_, ?_, ?_, ?_, ?_, ?_, ?_, ?_, ?_, ?_, ?_, ?_, ?_, ?_, ?_, ?_, trivial⟩ ?_
        ·
          intro vs W hE hp
          exact dr_plain rfl (dr_ex (v := .agg x40.enc) (Ex.loadA tyAgg71 rfl rfl (Reads.of_block ((hS.ext hE).at 0 rfl) 0 x40.enc.toList rfl) rfl) (Bw.refl _) rfl)
        ·
          intro vs W hE hp
          have p0 := hp 0 (by kernel_rfl)
          simp only [List.getD_cons_zero, List.getD_cons_succ] at p0
          exact dr_plain rfl (dr_callS (v := .bool x40.right) (enterS eg79 (args := [.agg x40.enc]) rfl rfl rfl (l1 p0)) (c_atright x40 _) (fun _ => rfl))
        ·
          intro vs W hE hp
          have p1 := hp 1 (by kernel_rfl)
          simp only [List.getD_cons_zero, List.getD_cons_succ] at p1
          exact dr_plain rfl (dr_ex (v := .bool (!x40.right)) (Ex.not rfl p1) (Bw.refl _) rfl)
        ·
          intro vs W hE hp
          have p2 := hp 2 (by kernel_rfl)
          simp only [List.getD_cons_zero, List.getD_cons_succ] at p2
          exact dr_plain rfl (dr_ex (v := .bool (!x40.right)) (Ex.move rfl p2) (Bw.refl _) rfl)
        ·
          intro vs W hE hp
          have p3 := hp 3 (by kernel_rfl)
          simp only [List.getD_cons_zero, List.getD_cons_succ] at p3
          exact dr_on rfl rfl rfl p3 (congrArg Value.bool hg46) (dr_ex (v := .int .i64 (k : Int)) (Ex.move rfl rfl) (Bw.refl _) rfl)
        ·
          intro vs W hE hp
          have p3 := hp 3 (by kernel_rfl)
          simp only [List.getD_cons_zero, List.getD_cons_succ] at p3
          have p4 := hp 4 (by kernel_rfl)
          simp only [List.getD_cons_zero, List.getD_cons_succ] at p4
          exact dr_on rfl rfl rfl p3 (congrArg Value.bool hg46) (dr_ex (v := .bool (decide (0 < (k : Int)))) (Ex.gt rfl p4 rfl) (Bw.refl _) rfl)
        ·
          intro vs W hE hp
          have p3 := hp 3 (by kernel_rfl)
          simp only [List.getD_cons_zero, List.getD_cons_succ] at p3
          have p5 := hp 5 (by kernel_rfl)
          simp only [List.getD_cons_zero, List.getD_cons_succ] at p5
          exact dr_on rfl rfl rfl p3 (congrArg Value.bool hg46) (dr_ex (v := .bool (decide (0 < (k : Int)))) (Ex.move rfl p5) (Bw.refl _) rfl)
        ·
          intro vs W hE hp
          have p6 := hp 6 (by kernel_rfl)
          simp only [List.getD_cons_zero, List.getD_cons_succ] at p6
          exact dr_off rfl rfl rfl p6 (congrArg Value.bool hg50) rfl rfl
        ·
          intro vs W hE hp
          have p6 := hp 6 (by kernel_rfl)
          simp only [List.getD_cons_zero, List.getD_cons_succ] at p6
          exact dr_off rfl rfl rfl p6 (congrArg Value.bool hg50) rfl rfl
        ·
          intro vs W hE hp
          have p6 := hp 6 (by kernel_rfl)
          simp only [List.getD_cons_zero, List.getD_cons_succ] at p6
          have p8 := hp 8 (by kernel_rfl)
          simp only [List.getD_cons_zero, List.getD_cons_succ] at p8
          exact dr_off rfl rfl rfl p6 (congrArg Value.bool hg50) rfl rfl
        ·
          intro vs W hE hp
          have p6 := hp 6 (by kernel_rfl)
          simp only [List.getD_cons_zero, List.getD_cons_succ] at p6
          have p7 := hp 7 (by kernel_rfl)
          simp only [List.getD_cons_zero, List.getD_cons_succ] at p7
          have p9 := hp 9 (by kernel_rfl)
          simp only [List.getD_cons_zero, List.getD_cons_succ] at p9
          exact dr_off rfl rfl rfl p6 (congrArg Value.bool hg50) rfl rfl
        ·
          intro vs W hE hp
          have p6 := hp 6 (by kernel_rfl)
          simp only [List.getD_cons_zero, List.getD_cons_succ] at p6
          have p10 := hp 10 (by kernel_rfl)
          simp only [List.getD_cons_zero, List.getD_cons_succ] at p10
          exact dr_off rfl rfl rfl p6 (congrArg Value.bool hg50) rfl rfl
        ·
          intro vs W hE hp
          have p6 := hp 6 (by kernel_rfl)
          simp only [List.getD_cons_zero, List.getD_cons_succ] at p6
          exact dr_off rfl rfl rfl p6 (congrArg Value.bool hg50) rfl rfl
        ·
          intro vs W hE hp
          have p6 := hp 6 (by kernel_rfl)
          simp only [List.getD_cons_zero, List.getD_cons_succ] at p6
          have p11 := hp 11 (by kernel_rfl)
          simp only [List.getD_cons_zero, List.getD_cons_succ] at p11
          have p12 := hp 12 (by kernel_rfl)
          simp only [List.getD_cons_zero, List.getD_cons_succ] at p12
          exact dr_off rfl rfl rfl p6 (congrArg Value.bool hg50) rfl rfl
        ·
          intro vs W hE hp
          have p6 := hp 6 (by kernel_rfl)
          simp only [List.getD_cons_zero, List.getD_cons_succ] at p6
          have p13 := hp 13 (by kernel_rfl)
          simp only [List.getD_cons_zero, List.getD_cons_succ] at p13
          exact dr_off rfl rfl rfl p6 (congrArg Value.bool hg50) rfl rfl
        ·
          intro vs W hE hp
          have p3 := hp 3 (by kernel_rfl)
          simp only [List.getD_cons_zero, List.getD_cons_succ] at p3
          have p6 := hp 6 (by kernel_rfl)
          simp only [List.getD_cons_zero, List.getD_cons_succ] at p6
          have p14 := hp 14 (by kernel_rfl)
          simp only [List.getD_cons_zero, List.getD_cons_succ] at p14
          exact dr_on rfl rfl rfl p3 (congrArg Value.bool hg46) (dr_ex (v := .bool false) (Ex.pickF rfl (p6.trans (congrArg Value.bool hg50)) rfl) (Bw.refl _) rfl)
        ·
          intro vs W hE hp
          have p3 := hp 3 (by kernel_rfl)
          simp only [List.getD_cons_zero, List.getD_cons_succ] at p3
          have p15 := hp 15 (by kernel_rfl)
          simp only [List.getD_cons_zero, List.getD_cons_succ] at p15
          exact dr_plain rfl (dr_ex (v := .bool false) (Ex.pickF rfl (p3.trans (congrArg Value.bool hg46)) p15) (Bw.refl _) rfl)
        intro vs W58 hE hv
        have hS0 := hS; replace hS := hS.ext hE
        have p0 : vs 0 = .agg x40.enc := hv 0 (by decide)
        have p1 : vs 1 = .bool x40.right := hv 1 (by decide)
        have p2 : vs 2 = .bool (!x40.right) := hv 2 (by decide)
        have p3 : vs 3 = .bool (!x40.right) := hv 3 (by decide)
        have p4 : vs 4 = .int .i64 (k : Int) := hv 4 (by decide)
        have p5 : vs 5 = .bool (decide (0 < (k : Int))) := hv 5 (by decide)
        have p6 : vs 6 = .bool (decide (0 < (k : Int))) := hv 6 (by decide)
        have p15 : vs 15 = .bool false := hv 15 (by decide)
        have p16 : vs 16 = .bool false := hv 16 (by decide)
        refine WL.keep (k := [(12, .agg x40.enc), (13, .bool x40.right), (14, .bool (!x40.right)), (15, .bool (!x40.right)), (16, .int .i64 (k : Int)), (17, .bool (decide (0 < (k : Int)))), (18, .bool (decide (0 < (k : Int)))), (27, .bool false), (28, .bool false)]) ⟨p0, p1, p2, p3, p4, p5, p6, p15, p16, trivial⟩ ?_
        refine WL.nil ?_
        refine then_normal ?_
        refine WP.condF rfl ?_
        refine WP.skip ?_
        refine inBlock_normal ?_
        refine then_normal ?_
        refine WP.region ?_
        refine WL.op (v := .int .i64 ((k + 1 : Nat) : Int)) rfl rfl rfl (Ex.add rfl rfl rfl (wrap_succ (by omega))) ?_
        refine WL.op (v := .int .i64 ((k + 1 : Nat) : Int)) rfl rfl rfl (Ex.move rfl rfl) ?_
        refine WL.nil ?_
        refine then_normal ?_
        exact ⟨_, ⟨k + 1, _, fr_keep ⟨rfl, rfl, rfl, rfl, trivial⟩, rfl, by omega, hS.drop 1 1, good_succ hall (gd_first hx41 hc49 (by omega))⟩, by simp only [id]; omega⟩
  ·
    have hc37' : ¬ ((k : Int) < (l.length : Int)) := by simpa using hc37
    refine WP.exit ?_
    refine then_exit (then_exit (inBlock_same (?_)))
    refine then_normal ?_
    refine WP.seq ?_
    refine WP.region ?_
    refine WL.op (v := .bool true) rfl rfl rfl (Ex.assign rfl rfl) ?_
    refine WL.nil ?_
    refine then_normal ?_
    refine WP.ret ?_
    refine ?_
    refine rt1 (v := .bool true) rfl rfl ?_
    exact ⟨retb (by rw [show k = l.length by omega] at hall; exact hall.symm), hS.bw⟩
end Go.Proofs.Ythidakffgcjjiaa
