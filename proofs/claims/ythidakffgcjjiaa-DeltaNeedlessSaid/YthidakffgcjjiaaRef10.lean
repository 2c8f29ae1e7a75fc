/- The document's rows: walks of its layer 10. -/
import Derived.Test.YthidakffgcjjiaaRef6
import Derived.Test.YthidakffgcjjiaaRefRows
import Derived.Test.YthidakffgcjjiaaSmall
namespace Go.Proofs.Ythidakffgcjjiaa
open Go.RowKit Go.Sort

set_option maxRecDepth 100000 in
set_option maxHeartbeats 1000000 in
theorem c_rrows (v : Value) (l : List At) (w : World) (hv : Sl w v l) :
    Calls Try.prog 105 #[v] w fun e w' => e = .returned (.bool (latRight l)) ∧ Bw w w' := by
  have hS := St.begin (w := w) (pins := pinSl v l :: []) ⟨hv, trivial⟩
  refine enter (n := 35) Try.func105 rfl rfl (Nat.le_of_ble_eq_true rfl) (l := [(0, v)]) rfl ?_
  refine WP.seq ?_
  refine WP.region ?_
  refine WL.op (v := .bool false) rfl rfl rfl (Ex.assign rfl rfl) ?_
  refine WL.nil ?_
  refine then_normal ?_
  refine WP.seq ?_
  refine WP.seq ?_
  refine WP.region ?_
  refine WL.op (v := .int .i64 0) rfl rfl rfl (Ex.assign rfl rfl) ?_
  refine WL.nil ?_
  refine then_normal ?_
  refine WP.block ?_
  refine WP.loop (fun (μ : Nat) a W => ∃ (k : Nat), ∃ (l0 : Fr), a = fr 35 [] ([(0, v), (3, .int .i64 (k : Int))] ++ l0) ∧ μ = l.length - k ∧ k ≤ l.length ∧ St w ([]) (pinSl v l :: []) W ∧ ((List.range k).all (goodAt l) = true)) id _ ⟨0, _, fr_keep ⟨rfl, rfl, trivial⟩, rfl, by omega, hS, rfl⟩ ?_
  rintro μ a W127 ⟨k, l0, rfl, rfl, hk, hS, hall⟩
  refine WP.seq ?_
  refine WP.seq ?_
  refine WP.region ?_
  refine WL.op (v := .int .i64 (k : Int)) rfl rfl rfl (Ex.move rfl rfl) ?_
  refine WL.op (v := v) rfl rfl rfl (Ex.move rfl rfl) ?_
  have hl128 : l.length < 4611686018427387904 := (hS.mem (.head _) : Sl _ _ _).lt
  refine WL.op (v := .int .i64 (l.length : Int)) rfl rfl rfl (Ex.lenSl (l := l) ⟨_, under22⟩ rfl rfl (hS.mem (.head _))) ?_
  refine WL.op (v := .bool (decide ((k : Int) < (l.length : Int)))) rfl rfl rfl (Ex.lt rfl rfl rfl) ?_
  refine WL.nil ?_
  refine then_normal ?_
  refine WP.cond (b := decide ((k : Int) < (l.length : Int))) rfl (fun hc129 => ?_) (fun hc129 => ?_)
  ·
    have hc129' : (k : Int) < (l.length : Int) := by simpa using hc129
    refine WP.skip ?_
    refine then_normal ?_
    refine WP.seq ?_
    refine WP.block ?_
    refine WP.seq ?_
    obtain ⟨b130, po131, x132, hx133, hi134, hS⟩ := hS.elem (α := At) (k := k) (.head _) under22 tySz71 (by omega)
    rcases Bool.eq_false_or_eq_true (!x132.right) with hg135 | hg135
    ·
      have hc136 : x132.right = false := by simpa using hg135
      refine WP.drawL 25 [(fun u_ _ => u_ = v), (fun u_ _ => u_ = .int .i64 (k : Int)), (fun u_ _ => u_ = .pointer (some ⟨b130, po131, none⟩)), (fun u_ _ => u_ = .agg x132.enc), (fun u_ _ => u_ = .bool x132.right), (fun u_ _ => u_ = .bool (!x132.right)), (fun u_ _ => u_ = .bool (!x132.right)), (fun u_ _ => u_ = undef), (fun u_ _ => u_ = undef), (fun u_ _ => u_ = undef), (fun u_ _ => u_ = undef), (fun u_ _ => u_ = undef), (fun u_ _ => u_ = undef), (fun u_ _ => u_ = undef), (fun u_ _ => u_ = undef), (fun u_ _ => u_ = undef), (fun u_ _ => u_ = undef), (fun u_ _ => u_ = undef), (fun u_ _ => u_ = undef), (fun u_ _ => u_ = undef), (fun u_ _ => u_ = undef), (fun u_ _ => u_ = undef), (fun u_ _ => u_ = undef), (fun u_ _ => u_ = undef), (fun u_ _ => u_ = .bool true)] (fun vs => (34, vs 24) :: (33, vs 23) :: (32, vs 22) :: (31, vs 21) :: (30, vs 20) :: (29, vs 19) :: (28, vs 18) :: (27, vs 17) :: (26, vs 16) :: (25, vs 15) :: (24, vs 14) :: (23, vs 13) :: (22, vs 12) :: (21, vs 11) :: (20, vs 10) :: (19, vs 9) :: (18, vs 8) :: (17, vs 7) :: (16, vs 6) :: (15, vs 5) :: (14, vs 4) :: (13, vs 3) :: (12, vs 2) :: (11, vs 1) :: (10, vs 0) :: _) ⟨fun _ _ _ _ h => h, fun _ _ _ _ h => h, fun _ _ _ _ h => h, fun _ _ _ _ h => h, fun _ _ _ _ h => h, fun _ _ _ _ h => h, fun _ _ _ _ h => h, fun _ _ _ _ h => h, fun _ _ _ _ h => h, fun _ _ _ _ h => h, fun _ _ _ _ h => h, fun _ _ _ _ h => h, fun _ _ _ _ h => h, fun _ _ _ _ h => h, fun _ _ _ _ h => h, fun _ _ _ _ h => h, fun _ _ _ _ h => h, fun _ _ _ _ h => h, fun _ _ _ _ h => h, fun _ _ _ _ h => h, fun _ _ _ _ h => h, fun _ _ _ _ h => h, fun _ _ _ _ h => h, fun _ _ _ _ h => h, fun _ _ _ _ h => h, trivial⟩ (by kernel_rfl) (fun _ => rfl) ⟨?_, ?_, ?_, ?_, ?_, ?_, ?_, ?_, ?_, ?_, ?_, ?_, ?_, ?_, ?_, ?_, ?_, ?_, ?_, ?_, ?_, ?_, ?_, ?_, ?_, trivial⟩ ?_
      ·
        intro vs W hE hp
        exact dr_plain rfl (dr_ex (v := v) (Ex.move rfl rfl) (Bw.refl _) rfl)
      ·
        intro vs W hE hp
        exact dr_plain rfl (dr_ex (v := .int .i64 (k : Int)) (Ex.move rfl rfl) (Bw.refl _) rfl)
      ·
        intro vs W hE hp
        have p0 := hp 0 (by kernel_rfl)
        simp only [List.getD_cons_zero, List.getD_cons_succ] at p0
        have p1 := hp 1 (by kernel_rfl)
        simp only [List.getD_cons_zero, List.getD_cons_succ] at p1
        exact dr_plain rfl (dr_ex (v := .pointer (some ⟨b130, po131, none⟩)) (Ex.indexC hi134 rfl p0 p1) (Bw.refl _) rfl)
      ·
        intro vs W hE hp
        have p2 := hp 2 (by kernel_rfl)
        simp only [List.getD_cons_zero, List.getD_cons_succ] at p2
        exact dr_plain rfl (dr_ex (v := .agg x132.enc) (Ex.loadA tyAgg71 rfl p2 (Reads.sub (cs := x132.enc.toList) ((hS.ext hE).get 0 rfl) 0 (ds := x132.enc.toList) rfl) rfl) (Bw.refl _) rfl)
      ·
        intro vs W hE hp
        have p3 := hp 3 (by kernel_rfl)
        simp only [List.getD_cons_zero, List.getD_cons_succ] at p3
        exact dr_plain rfl (dr_callS (v := .bool x132.right) (enterS eg106 (args := [.agg x132.enc]) rfl rfl rfl (l1 p3)) (c_raright x132 _) (fun _ => rfl))
      ·
        intro vs W hE hp
        have p4 := hp 4 (by kernel_rfl)
        simp only [List.getD_cons_zero, List.getD_cons_succ] at p4
        exact dr_plain rfl (dr_ex (v := .bool (!x132.right)) (Ex.not rfl p4) (Bw.refl _) rfl)
      ·
        intro vs W hE hp
        have p5 := hp 5 (by kernel_rfl)
        simp only [List.getD_cons_zero, List.getD_cons_succ] at p5
        exact dr_plain rfl (dr_ex (v := .bool (!x132.right)) (Ex.move rfl p5) (Bw.refl _) rfl)
      ·
        intro vs W hE hp
        have p6 := hp 6 (by kernel_rfl)
        simp only [List.getD_cons_zero, List.getD_cons_succ] at p6
        exact dr_off rfl rfl rfl p6 (congrArg Value.bool hg135) rfl rfl
      ·
        intro vs W hE hp
        have p6 := hp 6 (by kernel_rfl)
        simp only [List.getD_cons_zero, List.getD_cons_succ] at p6
        have p7 := hp 7 (by kernel_rfl)
        simp only [List.getD_cons_zero, List.getD_cons_succ] at p7
        exact dr_off rfl rfl rfl p6 (congrArg Value.bool hg135) rfl rfl
      ·
        intro vs W hE hp
        have p6 := hp 6 (by kernel_rfl)
        simp only [List.getD_cons_zero, List.getD_cons_succ] at p6
        have p8 := hp 8 (by kernel_rfl)
        simp only [List.getD_cons_zero, List.getD_cons_succ] at p8
        exact dr_off rfl rfl rfl p6 (congrArg Value.bool hg135) rfl rfl
      ·
        intro vs W hE hp
        have p9 := hp 9 (by kernel_rfl)
        simp only [List.getD_cons_zero, List.getD_cons_succ] at p9
        exact dr_offU rfl rfl rfl p9 rfl
      ·
        intro vs W hE hp
        have p9 := hp 9 (by kernel_rfl)
        simp only [List.getD_cons_zero, List.getD_cons_succ] at p9
        exact dr_offU rfl rfl rfl p9 rfl
      ·
        intro vs W hE hp
        have p9 := hp 9 (by kernel_rfl)
        simp only [List.getD_cons_zero, List.getD_cons_succ] at p9
        have p11 := hp 11 (by kernel_rfl)
        simp only [List.getD_cons_zero, List.getD_cons_succ] at p11
        exact dr_offU rfl rfl rfl p9 rfl
      ·
        intro vs W hE hp
        have p9 := hp 9 (by kernel_rfl)
        simp only [List.getD_cons_zero, List.getD_cons_succ] at p9
        have p10 := hp 10 (by kernel_rfl)
        simp only [List.getD_cons_zero, List.getD_cons_succ] at p10
        have p12 := hp 12 (by kernel_rfl)
        simp only [List.getD_cons_zero, List.getD_cons_succ] at p12
        exact dr_offU rfl rfl rfl p9 rfl
      ·
        intro vs W hE hp
        have p9 := hp 9 (by kernel_rfl)
        simp only [List.getD_cons_zero, List.getD_cons_succ] at p9
        have p13 := hp 13 (by kernel_rfl)
        simp only [List.getD_cons_zero, List.getD_cons_succ] at p13
        exact dr_offU rfl rfl rfl p9 rfl
      ·
        intro vs W hE hp
        have p9 := hp 9 (by kernel_rfl)
        simp only [List.getD_cons_zero, List.getD_cons_succ] at p9
        have p14 := hp 14 (by kernel_rfl)
        simp only [List.getD_cons_zero, List.getD_cons_succ] at p14
        exact dr_offU rfl rfl rfl p9 rfl
      ·
        intro vs W hE hp
        have p9 := hp 9 (by kernel_rfl)
        simp only [List.getD_cons_zero, List.getD_cons_succ] at p9
        exact dr_offU rfl rfl rfl p9 rfl
      ·
        intro vs W hE hp
        have p9 := hp 9 (by kernel_rfl)
        simp only [List.getD_cons_zero, List.getD_cons_succ] at p9
        exact dr_offU rfl rfl rfl p9 rfl
      ·
        intro vs W hE hp
        have p9 := hp 9 (by kernel_rfl)
        simp only [List.getD_cons_zero, List.getD_cons_succ] at p9
        have p16 := hp 16 (by kernel_rfl)
        simp only [List.getD_cons_zero, List.getD_cons_succ] at p16
        have p17 := hp 17 (by kernel_rfl)
        simp only [List.getD_cons_zero, List.getD_cons_succ] at p17
        exact dr_offU rfl rfl rfl p9 rfl
      ·
        intro vs W hE hp
        have p9 := hp 9 (by kernel_rfl)
        simp only [List.getD_cons_zero, List.getD_cons_succ] at p9
        have p18 := hp 18 (by kernel_rfl)
        simp only [List.getD_cons_zero, List.getD_cons_succ] at p18
        exact dr_offU rfl rfl rfl p9 rfl
      ·
        intro vs W hE hp
        have p9 := hp 9 (by kernel_rfl)
        simp only [List.getD_cons_zero, List.getD_cons_succ] at p9
        have p19 := hp 19 (by kernel_rfl)
        simp only [List.getD_cons_zero, List.getD_cons_succ] at p19
        exact dr_offU rfl rfl rfl p9 rfl
      ·
        intro vs W hE hp
        have p9 := hp 9 (by kernel_rfl)
        simp only [List.getD_cons_zero, List.getD_cons_succ] at p9
        have p15 := hp 15 (by kernel_rfl)
        simp only [List.getD_cons_zero, List.getD_cons_succ] at p15
        have p20 := hp 20 (by kernel_rfl)
        simp only [List.getD_cons_zero, List.getD_cons_succ] at p20
        exact dr_offU rfl rfl rfl p9 rfl
      ·
        intro vs W hE hp
        have p9 := hp 9 (by kernel_rfl)
        simp only [List.getD_cons_zero, List.getD_cons_succ] at p9
        have p21 := hp 21 (by kernel_rfl)
        simp only [List.getD_cons_zero, List.getD_cons_succ] at p21
        exact dr_offU rfl rfl rfl p9 rfl
      ·
        intro vs W hE hp
        have p6 := hp 6 (by kernel_rfl)
        simp only [List.getD_cons_zero, List.getD_cons_succ] at p6
        have p9 := hp 9 (by kernel_rfl)
        simp only [List.getD_cons_zero, List.getD_cons_succ] at p9
        have p22 := hp 22 (by kernel_rfl)
        simp only [List.getD_cons_zero, List.getD_cons_succ] at p22
        exact dr_off rfl rfl rfl p6 (congrArg Value.bool hg135) rfl rfl
      ·
        intro vs W hE hp
        have p6 := hp 6 (by kernel_rfl)
        simp only [List.getD_cons_zero, List.getD_cons_succ] at p6
        have p23 := hp 23 (by kernel_rfl)
        simp only [List.getD_cons_zero, List.getD_cons_succ] at p23
        exact dr_plain rfl (dr_ex (v := .bool true) (Ex.pickT rfl (p6.trans (congrArg Value.bool hg135)) rfl) (Bw.refl _) rfl)
      intro vs W137 hE hv
      have hS0 := hS; replace hS := hS.ext hE
      have p0 : vs 0 = v := hv 0 (by decide)
      have p1 : vs 1 = .int .i64 (k : Int) := hv 1 (by decide)
      have p2 : vs 2 = .pointer (some ⟨b130, po131, none⟩) := hv 2 (by decide)
      have p3 : vs 3 = .agg x132.enc := hv 3 (by decide)
      have p4 : vs 4 = .bool x132.right := hv 4 (by decide)
      have p5 : vs 5 = .bool (!x132.right) := hv 5 (by decide)
      have p6 : vs 6 = .bool (!x132.right) := hv 6 (by decide)
      have p24 : vs 24 = .bool true := hv 24 (by decide)
      refine WL.keep (k := [(10, v), (11, .int .i64 (k : Int)), (12, .pointer (some ⟨b130, po131, none⟩)), (13, .agg x132.enc), (14, .bool x132.right), (15, .bool (!x132.right)), (16, .bool (!x132.right)), (34, .bool true)]) ⟨p0, p1, p2, p3, p4, p5, p6, p24, trivial⟩ ?_
      refine WL.nil ?_
      refine then_normal ?_
      refine WP.condT rfl ?_
      refine WP.seq ?_
      refine WP.region ?_
      refine WL.op (v := .bool false) rfl rfl rfl (Ex.assign rfl rfl) ?_
      refine WL.nil ?_
      refine then_normal ?_
      refine WP.ret ?_
      refine inBlock_ret (then_ret (then_ret (inBlock_ret (then_ret (?_)))))
      refine rt1 (v := .bool false) rfl rfl ?_
      exact ⟨retb (bad_right hx133 (by assumption)).symm, hS.bw⟩
    ·
      have hc138 : x132.right = true := by simpa using hg135
      rcases Bool.eq_false_or_eq_true (decide (0 < (k : Int))) with hg139 | hg139
      ·
        have hg139' : 0 < (k : Int) := by simpa using hg139
        obtain ⟨b140, po141, x142, hx143, hi144, hS⟩ := hS.elem (α := At) (k := k - 1) (.tail _ (.head _)) under22 tySz71 (by omega)
        refine WP.drawL 25 [(fun u_ _ => u_ = v), (fun u_ _ => u_ = .int .i64 (k : Int)), (fun u_ _ => u_ = .pointer (some ⟨b130, po131, none⟩)), (fun u_ _ => u_ = .agg x132.enc), (fun u_ _ => u_ = .bool x132.right), (fun u_ _ => u_ = .bool (!x132.right)), (fun u_ _ => u_ = .bool (!x132.right)), (fun u_ _ => u_ = .int .i64 (k : Int)), (fun u_ _ => u_ = .bool (decide (0 < (k : Int)))), (fun u_ _ => u_ = .bool (decide (0 < (k : Int)))), (fun u_ _ => u_ = v), (fun u_ _ => u_ = .int .i64 (k : Int)), (fun u_ _ => u_ = .int .i64 ((k - 1 : Nat) : Int)), (fun u_ _ => u_ = .pointer (some ⟨b140, po141, none⟩)), (fun u_ _ => u_ = .pointer (some ⟨b140, po141, none⟩)), (fun u_ _ => u_ = .agg x142.k.enc), (fun u_ _ => u_ = v), (fun u_ _ => u_ = .int .i64 (k : Int)), (fun u_ _ => u_ = .pointer (some ⟨b130, po131, none⟩)), (fun u_ _ => u_ = .pointer (some ⟨b130, po131, none⟩)), (fun u_ _ => u_ = .agg x132.k.enc), (fun u_ _ => u_ = .bool (x142.k.lt x132.k)), (fun u_ _ => u_ = .bool (!(x142.k.lt x132.k))), (fun u_ _ => u_ = .bool (!(x142.k.lt x132.k))), (fun u_ _ => u_ = .bool (!(x142.k.lt x132.k)))] (fun vs => (34, vs 24) :: (33, vs 23) :: (32, vs 22) :: (31, vs 21) :: (30, vs 20) :: (29, vs 19) :: (28, vs 18) :: (27, vs 17) :: (26, vs 16) :: (25, vs 15) :: (24, vs 14) :: (23, vs 13) :: (22, vs 12) :: (21, vs 11) :: (20, vs 10) :: (19, vs 9) :: (18, vs 8) :: (17, vs 7) :: (16, vs 6) :: (15, vs 5) :: (14, vs 4) :: (13, vs 3) :: (12, vs 2) :: (11, vs 1) :: (10, vs 0) :: _) ⟨fun _ _ _ _ h => h, fun _ _ _ _ h => h, fun _ _ _ _ h => h, fun _ _ _ _ h => h, fun _ _ _ _ h => h, fun _ _ _ _ h => h, fun _ _ _ _ h => h, fun _ _ _ _ h => h, fun _ _ _ _ h => h, fun _ _ _ _ h => h, fun _ _ _ _ h => h, fun _ _ _ _ h => h, fun _ _ _ _ h => h, fun _ _ _ _ h => h, fun _ _ _ _ h => h, fun _ _ _ _ h => h, fun _ _ _ _ h => h, fun _ _ _ _ h => h, fun _ _ _ _ h => h, fun _ _ _ _ h => h, fun _ _ _ _ h => h, fun _ _ _ _ h => h, fun _ _ _ _ h => h, fun _ _ _ _ h => h, fun _ _ _ _ h => h, trivial⟩ (by kernel_rfl) (fun _ => rfl) ⟨?_, ?_, ?_, ?_, ?_, ?_, ?_, ?_, ?_, ?_, ?_, ?_, ?_, ?_, ?_, ?_, ?_, ?_, ?_, ?_, ?_, ?_, ?_, ?_, ?_, trivial⟩ ?_
        ·
          intro vs W hE hp
          exact dr_plain rfl (dr_ex (v := v) (Ex.move rfl rfl) (Bw.refl _) rfl)
        ·
          intro vs W hE hp
          exact dr_plain rfl (dr_ex (v := .int .i64 (k : Int)) (Ex.move rfl rfl) (Bw.refl _) rfl)
        ·
          intro vs W hE hp
          have p0 := hp 0 (by kernel_rfl)
          simp only [List.getD_cons_zero, List.getD_cons_succ] at p0
          have p1 := hp 1 (by kernel_rfl)
          simp only [List.getD_cons_zero, List.getD_cons_succ] at p1
          exact dr_plain rfl (dr_ex (v := .pointer (some ⟨b130, po131, none⟩)) (Ex.indexC hi134 rfl p0 p1) (Bw.refl _) rfl)
        ·
          intro vs W hE hp
          have p2 := hp 2 (by kernel_rfl)
          simp only [List.getD_cons_zero, List.getD_cons_succ] at p2
          exact dr_plain rfl (dr_ex (v := .agg x132.enc) (Ex.loadA tyAgg71 rfl p2 (Reads.sub (cs := x132.enc.toList) ((hS.ext hE).get 1 rfl) 0 (ds := x132.enc.toList) rfl) rfl) (Bw.refl _) rfl)
        ·
          intro vs W hE hp
          have p3 := hp 3 (by kernel_rfl)
          simp only [List.getD_cons_zero, List.getD_cons_succ] at p3
          exact dr_plain rfl (dr_callS (v := .bool x132.right) (enterS eg106 (args := [.agg x132.enc]) rfl rfl rfl (l1 p3)) (c_raright x132 _) (fun _ => rfl))
        ·
          intro vs W hE hp
          have p4 := hp 4 (by kernel_rfl)
          simp only [List.getD_cons_zero, List.getD_cons_succ] at p4
          exact dr_plain rfl (dr_ex (v := .bool (!x132.right)) (Ex.not rfl p4) (Bw.refl _) rfl)
        ·
          intro vs W hE hp
          have p5 := hp 5 (by kernel_rfl)
          simp only [List.getD_cons_zero, List.getD_cons_succ] at p5
          exact dr_plain rfl (dr_ex (v := .bool (!x132.right)) (Ex.move rfl p5) (Bw.refl _) rfl)
        ·
          intro vs W hE hp
          have p6 := hp 6 (by kernel_rfl)
          simp only [List.getD_cons_zero, List.getD_cons_succ] at p6
          exact dr_on rfl rfl rfl p6 (congrArg Value.bool hg135) (dr_ex (v := .int .i64 (k : Int)) (Ex.move rfl rfl) (Bw.refl _) rfl)
        ·
          intro vs W hE hp
          have p6 := hp 6 (by kernel_rfl)
          simp only [List.getD_cons_zero, List.getD_cons_succ] at p6
          have p7 := hp 7 (by kernel_rfl)
          simp only [List.getD_cons_zero, List.getD_cons_succ] at p7
          exact dr_on rfl rfl rfl p6 (congrArg Value.bool hg135) (dr_ex (v := .bool (decide (0 < (k : Int)))) (Ex.gt rfl p7 rfl) (Bw.refl _) rfl)
        ·
          intro vs W hE hp
          have p6 := hp 6 (by kernel_rfl)
          simp only [List.getD_cons_zero, List.getD_cons_succ] at p6
          have p8 := hp 8 (by kernel_rfl)
          simp only [List.getD_cons_zero, List.getD_cons_succ] at p8
          exact dr_on rfl rfl rfl p6 (congrArg Value.bool hg135) (dr_ex (v := .bool (decide (0 < (k : Int)))) (Ex.move rfl p8) (Bw.refl _) rfl)
        ·
          intro vs W hE hp
          have p9 := hp 9 (by kernel_rfl)
          simp only [List.getD_cons_zero, List.getD_cons_succ] at p9
          exact dr_on rfl rfl rfl p9 (congrArg Value.bool hg139) (dr_ex (v := v) (Ex.move rfl rfl) (Bw.refl _) rfl)
        ·
          intro vs W hE hp
          have p9 := hp 9 (by kernel_rfl)
          simp only [List.getD_cons_zero, List.getD_cons_succ] at p9
          exact dr_on rfl rfl rfl p9 (congrArg Value.bool hg139) (dr_ex (v := .int .i64 (k : Int)) (Ex.move rfl rfl) (Bw.refl _) rfl)
        ·
          intro vs W hE hp
          have p9 := hp 9 (by kernel_rfl)
          simp only [List.getD_cons_zero, List.getD_cons_succ] at p9
          have p11 := hp 11 (by kernel_rfl)
          simp only [List.getD_cons_zero, List.getD_cons_succ] at p11
          exact dr_on rfl rfl rfl p9 (congrArg Value.bool hg139) (dr_ex (v := .int .i64 ((k - 1 : Nat) : Int)) (Ex.sub rfl p11 rfl (wrap_pred (by omega) (by omega))) (Bw.refl _) rfl)
        ·
          intro vs W hE hp
          have p9 := hp 9 (by kernel_rfl)
          simp only [List.getD_cons_zero, List.getD_cons_succ] at p9
          have p10 := hp 10 (by kernel_rfl)
          simp only [List.getD_cons_zero, List.getD_cons_succ] at p10
          have p12 := hp 12 (by kernel_rfl)
          simp only [List.getD_cons_zero, List.getD_cons_succ] at p12
          exact dr_on rfl rfl rfl p9 (congrArg Value.bool hg139) (dr_ex (v := .pointer (some ⟨b140, po141, none⟩)) (Ex.indexC hi144 rfl p10 p12) (Bw.refl _) rfl)
        ·
          intro vs W hE hp
          have p9 := hp 9 (by kernel_rfl)
          simp only [List.getD_cons_zero, List.getD_cons_succ] at p9
          have p13 := hp 13 (by kernel_rfl)
          simp only [List.getD_cons_zero, List.getD_cons_succ] at p13
          exact dr_on rfl rfl rfl p9 (congrArg Value.bool hg139) (dr_ex (v := .pointer (some ⟨b140, po141, none⟩)) (Ex.fieldAddr' fieldAt71_0 rfl p13) (Bw.refl _) rfl)
        ·
          intro vs W hE hp
          have p9 := hp 9 (by kernel_rfl)
          simp only [List.getD_cons_zero, List.getD_cons_succ] at p9
          have p14 := hp 14 (by kernel_rfl)
          simp only [List.getD_cons_zero, List.getD_cons_succ] at p14
          exact dr_on rfl rfl rfl p9 (congrArg Value.bool hg139) (dr_ex (v := .agg x142.k.enc) (Ex.loadA tyAgg61 rfl p14 (Reads.sub (cs := x142.enc.toList) ((hS.ext hE).get 0 rfl) 0 (ds := x142.k.enc.toList) rfl) rfl) (Bw.refl _) rfl)
        ·
          intro vs W hE hp
          have p9 := hp 9 (by kernel_rfl)
          simp only [List.getD_cons_zero, List.getD_cons_succ] at p9
          exact dr_on rfl rfl rfl p9 (congrArg Value.bool hg139) (dr_ex (v := v) (Ex.move rfl rfl) (Bw.refl _) rfl)
        ·
          intro vs W hE hp
          have p9 := hp 9 (by kernel_rfl)
          simp only [List.getD_cons_zero, List.getD_cons_succ] at p9
          exact dr_on rfl rfl rfl p9 (congrArg Value.bool hg139) (dr_ex (v := .int .i64 (k : Int)) (Ex.move rfl rfl) (Bw.refl _) rfl)
        ·
          intro vs W hE hp
          have p9 := hp 9 (by kernel_rfl)
          simp only [List.getD_cons_zero, List.getD_cons_succ] at p9
          have p16 := hp 16 (by kernel_rfl)
          simp only [List.getD_cons_zero, List.getD_cons_succ] at p16
          have p17 := hp 17 (by kernel_rfl)
          simp only [List.getD_cons_zero, List.getD_cons_succ] at p17
          exact dr_on rfl rfl rfl p9 (congrArg Value.bool hg139) (dr_ex (v := .pointer (some ⟨b130, po131, none⟩)) (Ex.indexC hi134 rfl p16 p17) (Bw.refl _) rfl)
        ·
          intro vs W hE hp
          have p9 := hp 9 (by kernel_rfl)
          simp only [List.getD_cons_zero, List.getD_cons_succ] at p9
          have p18 := hp 18 (by kernel_rfl)
          simp only [List.getD_cons_zero, List.getD_cons_succ] at p18
          exact dr_on rfl rfl rfl p9 (congrArg Value.bool hg139) (dr_ex (v := .pointer (some ⟨b130, po131, none⟩)) (Ex.fieldAddr' fieldAt71_0 rfl p18) (Bw.refl _) rfl)
        ·
          intro vs W hE hp
          have p9 := hp 9 (by kernel_rfl)
          simp only [List.getD_cons_zero, List.getD_cons_succ] at p9
          have p19 := hp 19 (by kernel_rfl)
          simp only [List.getD_cons_zero, List.getD_cons_succ] at p19
          exact dr_on rfl rfl rfl p9 (congrArg Value.bool hg139) (dr_ex (v := .agg x132.k.enc) (Ex.loadA tyAgg61 rfl p19 (Reads.sub (cs := x132.enc.toList) ((hS.ext hE).get 1 rfl) 0 (ds := x132.k.enc.toList) rfl) rfl) (Bw.refl _) rfl)
        ·
          intro vs W hE hp
          have p9 := hp 9 (by kernel_rfl)
          simp only [List.getD_cons_zero, List.getD_cons_succ] at p9
          have p15 := hp 15 (by kernel_rfl)
          simp only [List.getD_cons_zero, List.getD_cons_succ] at p15
          have p20 := hp 20 (by kernel_rfl)
          simp only [List.getD_cons_zero, List.getD_cons_succ] at p20
          exact dr_on rfl rfl rfl p9 (congrArg Value.bool hg139) (dr_callS (v := .bool (x142.k.lt x132.k)) (enterS eg70 (args := [.agg x142.k.enc, .agg x132.k.enc]) rfl rfl rfl (l2 p15 p20)) (c_rless x142.k x132.k _) (fun _ => rfl))
        ·
          intro vs W hE hp
          have p9 := hp 9 (by kernel_rfl)
          simp only [List.getD_cons_zero, List.getD_cons_succ] at p9
          have p21 := hp 21 (by kernel_rfl)
          simp only [List.getD_cons_zero, List.getD_cons_succ] at p21
          exact dr_on rfl rfl rfl p9 (congrArg Value.bool hg139) (dr_ex (v := .bool (!(x142.k.lt x132.k))) (Ex.not rfl p21) (Bw.refl _) rfl)
        ·
          intro vs W hE hp
          have p6 := hp 6 (by kernel_rfl)
          simp only [List.getD_cons_zero, List.getD_cons_succ] at p6
          have p9 := hp 9 (by kernel_rfl)
          simp only [List.getD_cons_zero, List.getD_cons_succ] at p9
          have p22 := hp 22 (by kernel_rfl)
          simp only [List.getD_cons_zero, List.getD_cons_succ] at p22
          exact dr_on rfl rfl rfl p6 (congrArg Value.bool hg135) (dr_ex (v := .bool (!(x142.k.lt x132.k))) (Ex.pickT rfl (p9.trans (congrArg Value.bool hg139)) p22) (Bw.refl _) rfl)
        ·
          intro vs W hE hp
          have p6 := hp 6 (by kernel_rfl)
          simp only [List.getD_cons_zero, List.getD_cons_succ] at p6
          have p23 := hp 23 (by kernel_rfl)
          simp only [List.getD_cons_zero, List.getD_cons_succ] at p23
          exact dr_plain rfl (dr_ex (v := .bool (!(x142.k.lt x132.k))) (Ex.pickF rfl (p6.trans (congrArg Value.bool hg135)) p23) (Bw.refl _) rfl)
        intro vs W145 hE hv
        have hS0 := hS; replace hS := hS.ext hE
        have p0 : vs 0 = v := hv 0 (by decide)
        have p1 : vs 1 = .int .i64 (k : Int) := hv 1 (by decide)
        have p2 : vs 2 = .pointer (some ⟨b130, po131, none⟩) := hv 2 (by decide)
        have p3 : vs 3 = .agg x132.enc := hv 3 (by decide)
        have p4 : vs 4 = .bool x132.right := hv 4 (by decide)
        have p5 : vs 5 = .bool (!x132.right) := hv 5 (by decide)
        have p6 : vs 6 = .bool (!x132.right) := hv 6 (by decide)
        have p7 : vs 7 = .int .i64 (k : Int) := hv 7 (by decide)
        have p8 : vs 8 = .bool (decide (0 < (k : Int))) := hv 8 (by decide)
        have p9 : vs 9 = .bool (decide (0 < (k : Int))) := hv 9 (by decide)
        have p10 : vs 10 = v := hv 10 (by decide)
        have p11 : vs 11 = .int .i64 (k : Int) := hv 11 (by decide)
        have p12 : vs 12 = .int .i64 ((k - 1 : Nat) : Int) := hv 12 (by decide)
        have p13 : vs 13 = .pointer (some ⟨b140, po141, none⟩) := hv 13 (by decide)
        have p14 : vs 14 = .pointer (some ⟨b140, po141, none⟩) := hv 14 (by decide)
        have p15 : vs 15 = .agg x142.k.enc := hv 15 (by decide)
        have p16 : vs 16 = v := hv 16 (by decide)
        have p17 : vs 17 = .int .i64 (k : Int) := hv 17 (by decide)
        have p18 : vs 18 = .pointer (some ⟨b130, po131, none⟩) := hv 18 (by decide)
        have p19 : vs 19 = .pointer (some ⟨b130, po131, none⟩) := hv 19 (by decide)
        have p20 : vs 20 = .agg x132.k.enc := hv 20 (by decide)
        have p21 : vs 21 = .bool (x142.k.lt x132.k) := hv 21 (by decide)
        have p22 : vs 22 = .bool (!(x142.k.lt x132.k)) := hv 22 (by decide)
        have p23 : vs 23 = .bool (!(x142.k.lt x132.k)) := hv 23 (by decide)
        have p24 : vs 24 = .bool (!(x142.k.lt x132.k)) := hv 24 (by decide)
        refine WL.keep (k := [(10, v), (11, .int .i64 (k : Int)), (12, .pointer (some ⟨b130, po131, none⟩)), (13, .agg x132.enc), (14, .bool x132.right), (15, .bool (!x132.right)), (16, .bool (!x132.right)), (17, .int .i64 (k : Int)), (18, .bool (decide (0 < (k : Int)))), (19, .bool (decide (0 < (k : Int)))), (20, v), (21, .int .i64 (k : Int)), (22, .int .i64 ((k - 1 : Nat) : Int)), (23, .pointer (some ⟨b140, po141, none⟩)), (24, .pointer (some ⟨b140, po141, none⟩)), (25, .agg x142.k.enc), (26, v), (27, .int .i64 (k : Int)), (28, .pointer (some ⟨b130, po131, none⟩)), (29, .pointer (some ⟨b130, po131, none⟩)), (30, .agg x132.k.enc), (31, .bool (x142.k.lt x132.k)), (32, .bool (!(x142.k.lt x132.k))), (33, .bool (!(x142.k.lt x132.k))), (34, .bool (!(x142.k.lt x132.k)))]) ⟨p0, p1, p2, p3, p4, p5, p6, p7, p8, p9, p10, p11, p12, p13, p14, p15, p16, p17, p18, p19, p20, p21, p22, p23, p24, trivial⟩ ?_
        refine WL.nil ?_
        refine then_normal ?_
        refine WP.cond (b := !(x142.k.lt x132.k)) rfl (fun hc146 => ?_) (fun hc146 => ?_)
        ·
          have hc147 : (x142.k.lt x132.k) = false := by simpa using hc146
          refine WP.seq ?_
          refine WP.region ?_
          refine WL.op (v := .bool false) rfl rfl rfl (Ex.assign rfl rfl) ?_
          refine WL.nil ?_
          refine then_normal ?_
          refine WP.ret ?_
          refine inBlock_ret (then_ret (then_ret (inBlock_ret (then_ret (?_)))))
          refine rt1 (v := .bool false) rfl rfl ?_
          exact ⟨retb (bad_later hx133 hx143 (by omega) (by assumption)).symm, hS.bw⟩
        ·
          have hc148 : (x142.k.lt x132.k) = true := by simpa using hc146
          refine WP.skip ?_
          refine inBlock_normal ?_
          refine then_normal ?_
          refine WP.region ?_
          refine WL.op (v := .int .i64 (k : Int)) rfl rfl rfl (Ex.move rfl rfl) ?_
          refine WL.op (v := .int .i64 ((k + 1 : Nat) : Int)) rfl rfl rfl (Ex.add rfl rfl rfl (wrap_succ (by omega))) ?_
          refine WL.op (v := .int .i64 ((k + 1 : Nat) : Int)) rfl rfl rfl (Ex.assign rfl rfl) ?_
          refine WL.nil ?_
          refine then_normal ?_
          exact ⟨_, ⟨k + 1, _, fr_keep ⟨rfl, rfl, trivial⟩, rfl, by omega, hS.drop 0 2, good_succ hall (good_later hx133 hc138 hx143 (by assumption))⟩, by simp only [id]; omega⟩
      ·
        have hg139' : ¬ (0 < (k : Int)) := by simpa using hg139
        refine WP.drawL 25 [(fun u_ _ => u_ = v), (fun u_ _ => u_ = .int .i64 (k : Int)), (fun u_ _ => u_ = .pointer (some ⟨b130, po131, none⟩)), (fun u_ _ => u_ = .agg x132.enc), (fun u_ _ => u_ = .bool x132.right), (fun u_ _ => u_ = .bool (!x132.right)), (fun u_ _ => u_ = .bool (!x132.right)), (fun u_ _ => u_ = .int .i64 (k : Int)), (fun u_ _ => u_ = .bool (decide (0 < (k : Int)))), (fun u_ _ => u_ = .bool (decide (0 < (k : Int)))), (fun u_ _ => u_ = undef), (fun u_ _ => u_ = undef), (fun u_ _ => u_ = undef), (fun u_ _ => u_ = undef), (fun u_ _ => u_ = undef), (fun u_ _ => u_ = undef), (fun u_ _ => u_ = undef), (fun u_ _ => u_ = undef), (fun u_ _ => u_ = undef), (fun u_ _ => u_ = undef), (fun u_ _ => u_ = undef), (fun u_ _ => u_ = undef), (fun u_ _ => u_ = undef), (fun u_ _ => u_ = .bool false), (fun u_ _ => u_ = .bool false)] (fun vs => (34, vs 24) :: (33, vs 23) :: (32, vs 22) :: (31, vs 21) :: (30, vs 20) :: (29, vs 19) :: (28, vs 18) :: (27, vs 17) :: (26, vs 16) :: (25, vs 15) :: (24, vs 14) :: (23, vs 13) :: (22, vs 12) :: (21, vs 11) :: (20, vs 10) :: (19, vs 9) :: (18, vs 8) :: (17, vs 7) :: (16, vs 6) :: (15, vs 5) :: (14, vs 4) :: (13, vs 3) :: (12, vs 2) :: (11, vs 1) :: (10, vs 0) :: _) ⟨fun _ _ _ _ h => h, fun _ _ _ _ h => h, fun _ _ _ _ h => h, fun _ _ _ _ h => h, fun _ _ _ _ h => h, fun _ _ _ _ h => h, fun _ _ _ _ h => h, fun _ _ _ _ h => h, fun _ _ _ _ h => h, fun _ _ _ _ h => h, fun _ _ _ _ h => h, fun _ _ _ _ h => h, fun _ _ _ _ h => h, fun _ _ _ _ h => h, fun _ _ _ _ h => h, fun _ _ _ _ h => h, fun _ _ _ _ h => h, fun _ _ _ _ h => h, fun _ _ _ _ h => h, fun _ _ _ _ h => h, fun _ _ _ _ h => h, fun _ _ _ _ h => h, fun _ _ _ _ h => h, fun _ _ _ _ h => h, fun _ _ _ _ h => h, trivial⟩ (by kernel_rfl) (fun _ => rfl) ⟨?_, ?_, ?_, ?_, ?_, ?_, ?_, ?_, ?_, ?_, ?_, ?_, ?_, ?_, ?_, ?_, ?_, ?_, ?_, ?_, ?_, ?_, ?_, ?_, ?_, trivial⟩ ?_
        ·
          intro vs W hE hp
          exact dr_plain rfl (dr_ex (v := v) (Ex.move rfl rfl) (Bw.refl _) rfl)
        ·
          intro vs W hE hp
          exact dr_plain rfl (dr_ex (v := .int .i64 (k : Int)) (Ex.move rfl rfl) (Bw.refl _) rfl)
        ·
          intro vs W hE hp
          have p0 := hp 0 (by kernel_rfl)
          simp only [List.getD_cons_zero, List.getD_cons_succ] at p0
          have p1 := hp 1 (by kernel_rfl)
          simp only [List.getD_cons_zero, List.getD_cons_succ] at p1
          exact dr_plain rfl (dr_ex (v := .pointer (some ⟨b130, po131, none⟩)) (Ex.indexC hi134 rfl p0 p1) (Bw.refl _) rfl)
        ·
          intro vs W hE hp
          have p2 := hp 2 (by kernel_rfl)
          simp only [List.getD_cons_zero, List.getD_cons_succ] at p2
          exact dr_plain rfl (dr_ex (v := .agg x132.enc) (Ex.loadA tyAgg71 rfl p2 (Reads.sub (cs := x132.enc.toList) ((hS.ext hE).get 0 rfl) 0 (ds := x132.enc.toList) rfl) rfl) (Bw.refl _) rfl)
        ·
          intro vs W hE hp
          have p3 := hp 3 (by kernel_rfl)
          simp only [List.getD_cons_zero, List.getD_cons_succ] at p3
          exact dr_plain rfl (dr_callS (v := .bool x132.right) (enterS eg106 (args := [.agg x132.enc]) rfl rfl rfl (l1 p3)) (c_raright x132 _) (fun _ => rfl))
        ·
          intro vs W hE hp
          have p4 := hp 4 (by kernel_rfl)
          simp only [List.getD_cons_zero, List.getD_cons_succ] at p4
          exact dr_plain rfl (dr_ex (v := .bool (!x132.right)) (Ex.not rfl p4) (Bw.refl _) rfl)
        ·
          intro vs W hE hp
          have p5 := hp 5 (by kernel_rfl)
          simp only [List.getD_cons_zero, List.getD_cons_succ] at p5
          exact dr_plain rfl (dr_ex (v := .bool (!x132.right)) (Ex.move rfl p5) (Bw.refl _) rfl)
        ·
          intro vs W hE hp
          have p6 := hp 6 (by kernel_rfl)
          simp only [List.getD_cons_zero, List.getD_cons_succ] at p6
          exact dr_on rfl rfl rfl p6 (congrArg Value.bool hg135) (dr_ex (v := .int .i64 (k : Int)) (Ex.move rfl rfl) (Bw.refl _) rfl)
        ·
          intro vs W hE hp
          have p6 := hp 6 (by kernel_rfl)
          simp only [List.getD_cons_zero, List.getD_cons_succ] at p6
          have p7 := hp 7 (by kernel_rfl)
          simp only [List.getD_cons_zero, List.getD_cons_succ] at p7
          exact dr_on rfl rfl rfl p6 (congrArg Value.bool hg135) (dr_ex (v := .bool (decide (0 < (k : Int)))) (Ex.gt rfl p7 rfl) (Bw.refl _) rfl)
        ·
          intro vs W hE hp
          have p6 := hp 6 (by kernel_rfl)
          simp only [List.getD_cons_zero, List.getD_cons_succ] at p6
          have p8 := hp 8 (by kernel_rfl)
          simp only [List.getD_cons_zero, List.getD_cons_succ] at p8
          exact dr_on rfl rfl rfl p6 (congrArg Value.bool hg135) (dr_ex (v := .bool (decide (0 < (k : Int)))) (Ex.move rfl p8) (Bw.refl _) rfl)
        ·
          intro vs W hE hp
          have p9 := hp 9 (by kernel_rfl)
          simp only [List.getD_cons_zero, List.getD_cons_succ] at p9
          exact dr_off rfl rfl rfl p9 (congrArg Value.bool hg139) rfl rfl
        ·
          intro vs W hE hp
          have p9 := hp 9 (by kernel_rfl)
          simp only [List.getD_cons_zero, List.getD_cons_succ] at p9
          exact dr_off rfl rfl rfl p9 (congrArg Value.bool hg139) rfl rfl
        ·
          intro vs W hE hp
          have p9 := hp 9 (by kernel_rfl)
          simp only [List.getD_cons_zero, List.getD_cons_succ] at p9
          have p11 := hp 11 (by kernel_rfl)
          simp only [List.getD_cons_zero, List.getD_cons_succ] at p11
          exact dr_off rfl rfl rfl p9 (congrArg Value.bool hg139) rfl rfl
        ·
          intro vs W hE hp
          have p9 := hp 9 (by kernel_rfl)
          simp only [List.getD_cons_zero, List.getD_cons_succ] at p9
          have p10 := hp 10 (by kernel_rfl)
          simp only [List.getD_cons_zero, List.getD_cons_succ] at p10
          have p12 := hp 12 (by kernel_rfl)
          simp only [List.getD_cons_zero, List.getD_cons_succ] at p12
          exact dr_off rfl rfl rfl p9 (congrArg Value.bool hg139) rfl rfl
        ·
          intro vs W hE hp
          have p9 := hp 9 (by kernel_rfl)
          simp only [List.getD_cons_zero, List.getD_cons_succ] at p9
          have p13 := hp 13 (by kernel_rfl)
          simp only [List.getD_cons_zero, List.getD_cons_succ] at p13
          exact dr_off rfl rfl rfl p9 (congrArg Value.bool hg139) rfl rfl
        ·
          intro vs W hE hp
          have p9 := hp 9 (by kernel_rfl)
          simp only [List.getD_cons_zero, List.getD_cons_succ] at p9
          have p14 := hp 14 (by kernel_rfl)
          simp only [List.getD_cons_zero, List.getD_cons_succ] at p14
          exact dr_off rfl rfl rfl p9 (congrArg Value.bool hg139) rfl rfl
        ·
          intro vs W hE hp
          have p9 := hp 9 (by kernel_rfl)
          simp only [List.getD_cons_zero, List.getD_cons_succ] at p9
          exact dr_off rfl rfl rfl p9 (congrArg Value.bool hg139) rfl rfl
        ·
          intro vs W hE hp
          have p9 := hp 9 (by kernel_rfl)
          simp only [List.getD_cons_zero, List.getD_cons_succ] at p9
          exact dr_off rfl rfl rfl p9 (congrArg Value.bool hg139) rfl rfl
        ·
          intro vs W hE hp
          have p9 := hp 9 (by kernel_rfl)
          simp only [List.getD_cons_zero, List.getD_cons_succ] at p9
          have p16 := hp 16 (by kernel_rfl)
          simp only [List.getD_cons_zero, List.getD_cons_succ] at p16
          have p17 := hp 17 (by kernel_rfl)
          simp only [List.getD_cons_zero, List.getD_cons_succ] at p17
          exact dr_off rfl rfl rfl p9 (congrArg Value.bool hg139) rfl rfl
        ·
          intro vs W hE hp
          have p9 := hp 9 (by kernel_rfl)
          simp only [List.getD_cons_zero, List.getD_cons_succ] at p9
          have p18 := hp 18 (by kernel_rfl)
          simp only [List.getD_cons_zero, List.getD_cons_succ] at p18
          exact dr_off rfl rfl rfl p9 (congrArg Value.bool hg139) rfl rfl
        ·
          intro vs W hE hp
          have p9 := hp 9 (by kernel_rfl)
          simp only [List.getD_cons_zero, List.getD_cons_succ] at p9
          have p19 := hp 19 (by kernel_rfl)
          simp only [List.getD_cons_zero, List.getD_cons_succ] at p19
          exact dr_off rfl rfl rfl p9 (congrArg Value.bool hg139) rfl rfl
        ·
          intro vs W hE hp
          have p9 := hp 9 (by kernel_rfl)
          simp only [List.getD_cons_zero, List.getD_cons_succ] at p9
          have p15 := hp 15 (by kernel_rfl)
          simp only [List.getD_cons_zero, List.getD_cons_succ] at p15
          have p20 := hp 20 (by kernel_rfl)
          simp only [List.getD_cons_zero, List.getD_cons_succ] at p20
          exact dr_off rfl rfl rfl p9 (congrArg Value.bool hg139) rfl rfl
        ·
          intro vs W hE hp
          have p9 := hp 9 (by kernel_rfl)
          simp only [List.getD_cons_zero, List.getD_cons_succ] at p9
          have p21 := hp 21 (by kernel_rfl)
          simp only [List.getD_cons_zero, List.getD_cons_succ] at p21
          exact dr_off rfl rfl rfl p9 (congrArg Value.bool hg139) rfl rfl
        ·
          intro vs W hE hp
          have p6 := hp 6 (by kernel_rfl)
          simp only [List.getD_cons_zero, List.getD_cons_succ] at p6
          have p9 := hp 9 (by kernel_rfl)
          simp only [List.getD_cons_zero, List.getD_cons_succ] at p9
          have p22 := hp 22 (by kernel_rfl)
          simp only [List.getD_cons_zero, List.getD_cons_succ] at p22
          exact dr_on rfl rfl rfl p6 (congrArg Value.bool hg135) (dr_ex (v := .bool false) (Ex.pickF rfl (p9.trans (congrArg Value.bool hg139)) rfl) (Bw.refl _) rfl)
        ·
          intro vs W hE hp
          have p6 := hp 6 (by kernel_rfl)
          simp only [List.getD_cons_zero, List.getD_cons_succ] at p6
          have p23 := hp 23 (by kernel_rfl)
          simp only [List.getD_cons_zero, List.getD_cons_succ] at p23
          exact dr_plain rfl (dr_ex (v := .bool false) (Ex.pickF rfl (p6.trans (congrArg Value.bool hg135)) p23) (Bw.refl _) rfl)
        intro vs W149 hE hv
        have hS0 := hS; replace hS := hS.ext hE
        have p0 : vs 0 = v := hv 0 (by decide)
        have p1 : vs 1 = .int .i64 (k : Int) := hv 1 (by decide)
        have p2 : vs 2 = .pointer (some ⟨b130, po131, none⟩) := hv 2 (by decide)
        have p3 : vs 3 = .agg x132.enc := hv 3 (by decide)
        have p4 : vs 4 = .bool x132.right := hv 4 (by decide)
        have p5 : vs 5 = .bool (!x132.right) := hv 5 (by decide)
        have p6 : vs 6 = .bool (!x132.right) := hv 6 (by decide)
        have p7 : vs 7 = .int .i64 (k : Int) := hv 7 (by decide)
        have p8 : vs 8 = .bool (decide (0 < (k : Int))) := hv 8 (by decide)
        have p9 : vs 9 = .bool (decide (0 < (k : Int))) := hv 9 (by decide)
        have p23 : vs 23 = .bool false := hv 23 (by decide)
        have p24 : vs 24 = .bool false := hv 24 (by decide)
        refine WL.keep (k := [(10, v), (11, .int .i64 (k : Int)), (12, .pointer (some ⟨b130, po131, none⟩)), (13, .agg x132.enc), (14, .bool x132.right), (15, .bool (!x132.right)), (16, .bool (!x132.right)), (17, .int .i64 (k : Int)), (18, .bool (decide (0 < (k : Int)))), (19, .bool (decide (0 < (k : Int)))), (33, .bool false), (34, .bool false)]) ⟨p0, p1, p2, p3, p4, p5, p6, p7, p8, p9, p23, p24, trivial⟩ ?_
        refine WL.nil ?_
        refine then_normal ?_
        refine WP.condF rfl ?_
        refine WP.skip ?_
        refine inBlock_normal ?_
        refine then_normal ?_
        refine WP.region ?_
        refine WL.op (v := .int .i64 (k : Int)) rfl rfl rfl (Ex.move rfl rfl) ?_
        refine WL.op (v := .int .i64 ((k + 1 : Nat) : Int)) rfl rfl rfl (Ex.add rfl rfl rfl (wrap_succ (by omega))) ?_
        refine WL.op (v := .int .i64 ((k + 1 : Nat) : Int)) rfl rfl rfl (Ex.assign rfl rfl) ?_
        refine WL.nil ?_
        refine then_normal ?_
        exact ⟨_, ⟨k + 1, _, fr_keep ⟨rfl, rfl, trivial⟩, rfl, by omega, hS.drop 0 1, good_succ hall (good_first hx133 hc138 (by omega))⟩, by simp only [id]; omega⟩
  ·
    have hc129' : ¬ ((k : Int) < (l.length : Int)) := by simpa using hc129
    refine WP.exit ?_
    refine then_exit (then_exit (inBlock_same (?_)))
    refine then_normal ?_
    refine WP.seq ?_
    refine WP.region ?_
    refine WL.op (v := .bool true) rfl rfl rfl (Ex.assign rfl rfl) ?_
    refine WL.nil ?_
    refine then_normal ?_
    refine WP.ret ?_
    refine ?_
    refine rt1 (v := .bool true) rfl rfl ?_
    exact ⟨retb (by rw [show k = l.length by omega] at hall; exact hall.symm), hS.bw⟩
set_option maxRecDepth 100000 in
set_option maxHeartbeats 1000000 in
theorem c_rput (v : Value) (l : List At) (a1 : At) (w : World) (hv : Sl w v l) (hl : l.length ≤ 1048576) :
    Calls Try.prog 107 #[v, .agg a1.enc] w fun e w' => ∃ v', e = .returned v' ∧ Bw w w' ∧ Sl w' v' (putRow l a1) ∧ New w v' := by
  have hS := St.begin (w := w) (pins := pinSl v l :: []) ⟨hv, trivial⟩
  refine enter (n := 66) Try.func107 rfl rfl (Nat.le_of_ble_eq_true rfl) (l := [(0, v), (1, .agg a1.enc)]) rfl ?_
  refine WP.seq ?_
  refine WP.region ?_
  refine WL.box (v := .agg a1.enc) hS rfl rfl rfl rfl rfl (fun b150 W151 hS => ?_)
  refine WL.op (v := .slice none 0 0) rfl rfl rfl (Ex.assign rfl rfl) ?_
  refine WL.nil ?_
  refine then_normal ?_
  refine WP.seq ?_
  refine WP.region ?_
  refine WL.op (v := .slice none 0 0) rfl rfl rfl (Ex.assign rfl rfl) ?_
  refine WL.nil ?_
  refine then_normal ?_
  refine WP.seq ?_
  refine WP.region ?_
  refine WL.op (v := .bool false) rfl rfl rfl (Ex.assign rfl rfl) ?_
  refine WL.nil ?_
  refine then_normal ?_
  refine WP.seq ?_
  refine WP.seq ?_
  refine WP.region ?_
  refine WL.op (v := .int .i64 0) rfl rfl rfl (Ex.assign rfl rfl) ?_
  refine WL.nil ?_
  refine then_normal ?_
  refine WP.block ?_
  refine WP.loop (fun (μ : Nat) a W => ∃ (k : Nat), ∃ (vo : Value), ∃ (eo : Option (Nat × Obj)), ∃ (d : List At), ∃ (db : Bool), ∃ (l0 : Fr), a = fr 66 [] ([(0, v), (3, .pointer (some ⟨b150, 0, none⟩)), (4, .slice none 0 0), (7, .int .i64 (k : Int)), (5, vo), (6, .bool db)] ++ l0) ∧ μ = l.length - k ∧ k ≤ l.length ∧ St w ((b150, .cells a1.enc 71) :: eo.toList) (pinSl v l :: []) W ∧ (OutG vo eo 71 d) ∧ ((d, db) = putF (l.take k) a1) ∧ (d.length ≤ 2 * k)) id _ ⟨0, .slice none 0 0, none, [], false, _, fr_keep ⟨rfl, rfl, rfl, rfl, rfl, rfl, trivial⟩, rfl, by omega, hS, OutG.nil, rfl, (by simp)⟩ ?_
  rintro μ a W152 ⟨k, vo, eo, d, db, l0, rfl, rfl, hk, hS, hO, hst, hdl⟩
  refine WP.seq ?_
  refine WP.seq ?_
  refine WP.region ?_
  refine WL.op (v := .int .i64 (k : Int)) rfl rfl rfl (Ex.move rfl rfl) ?_
  refine WL.op (v := v) rfl rfl rfl (Ex.move rfl rfl) ?_
  have hl153 : l.length < 4611686018427387904 := (hS.mem (.head _) : Sl _ _ _).lt
  refine WL.op (v := .int .i64 (l.length : Int)) rfl rfl rfl (Ex.lenSl (l := l) ⟨_, under22⟩ rfl rfl (hS.mem (.head _))) ?_
  refine WL.op (v := .bool (decide ((k : Int) < (l.length : Int)))) rfl rfl rfl (Ex.lt rfl rfl rfl) ?_
  refine WL.nil ?_
  refine then_normal ?_
  refine WP.cond (b := decide ((k : Int) < (l.length : Int))) rfl (fun hc154 => ?_) (fun hc154 => ?_)
  ·
    have hc154' : (k : Int) < (l.length : Int) := by simpa using hc154
    refine WP.skip ?_
    refine then_normal ?_
    refine WP.seq ?_
    refine WP.block ?_
    refine WP.seq ?_
    refine WP.seq ?_
    obtain ⟨b155, po156, x157, hx158, hi159, hS⟩ := hS.elem (α := At) (k := k) (.head _) under22 tySz71 (by omega)
    refine WP.drawL 8 [(fun u_ _ => u_ = v), (fun u_ _ => u_ = .int .i64 (k : Int)), (fun u_ _ => u_ = .pointer (some ⟨b155, po156, none⟩)), (fun u_ _ => u_ = .pointer (some ⟨b155, po156, none⟩)), (fun u_ _ => u_ = .agg x157.k.enc), (fun u_ _ => u_ = .pointer (some ⟨b150, 0, none⟩)), (fun u_ _ => u_ = .agg a1.k.enc), (fun u_ _ => u_ = .bool (decide (x157.k = a1.k)))] (fun vs => (21, vs 7) :: (20, vs 6) :: (19, vs 5) :: (18, vs 4) :: (17, vs 3) :: (16, vs 2) :: (15, vs 1) :: (14, vs 0) :: _) ⟨fun _ _ _ _ h => h, fun _ _ _ _ h => h, fun _ _ _ _ h => h, fun _ _ _ _ h => h, fun _ _ _ _ h => h, fun _ _ _ _ h => h, fun _ _ _ _ h => h, fun _ _ _ _ h => h, trivial⟩ (by kernel_rfl) (fun _ => rfl) ⟨?_, ?_, ?_, ?_, ?_, ?_, ?_, ?_, trivial⟩ ?_
    ·
      intro vs W hE hp
      exact dr_plain rfl (dr_ex (v := v) (Ex.move rfl rfl) (Bw.refl _) rfl)
    ·
      intro vs W hE hp
      exact dr_plain rfl (dr_ex (v := .int .i64 (k : Int)) (Ex.move rfl rfl) (Bw.refl _) rfl)
    ·
      intro vs W hE hp
      have p0 := hp 0 (by kernel_rfl)
      simp only [List.getD_cons_zero, List.getD_cons_succ] at p0
      have p1 := hp 1 (by kernel_rfl)
      simp only [List.getD_cons_zero, List.getD_cons_succ] at p1
      exact dr_plain rfl (dr_ex (v := .pointer (some ⟨b155, po156, none⟩)) (Ex.indexC hi159 rfl p0 p1) (Bw.refl _) rfl)
    ·
      intro vs W hE hp
      have p2 := hp 2 (by kernel_rfl)
      simp only [List.getD_cons_zero, List.getD_cons_succ] at p2
      exact dr_plain rfl (dr_ex (v := .pointer (some ⟨b155, po156, none⟩)) (Ex.fieldAddr' fieldAt71_0 rfl p2) (Bw.refl _) rfl)
    ·
      intro vs W hE hp
      have p3 := hp 3 (by kernel_rfl)
      simp only [List.getD_cons_zero, List.getD_cons_succ] at p3
      exact dr_plain rfl (dr_ex (v := .agg x157.k.enc) (Ex.loadA tyAgg61 rfl p3 (Reads.sub (cs := x157.enc.toList) ((hS.ext hE).get 0 rfl) 0 (ds := x157.k.enc.toList) rfl) rfl) (Bw.refl _) rfl)
    ·
      intro vs W hE hp
      exact dr_plain rfl (dr_ex (v := .pointer (some ⟨b150, 0, none⟩)) (Ex.fieldAddr' fieldAt71_0 rfl rfl) (Bw.refl _) rfl)
    ·
      intro vs W hE hp
      have p5 := hp 5 (by kernel_rfl)
      simp only [List.getD_cons_zero, List.getD_cons_succ] at p5
      exact dr_plain rfl (dr_ex (v := .agg a1.k.enc) (Ex.loadA tyAgg61 rfl p5 (Reads.of_block ((hS.ext hE).at 0 rfl) 0 a1.k.enc.toList rfl) rfl) (Bw.refl _) rfl)
    ·
      intro vs W hE hp
      have p4 := hp 4 (by kernel_rfl)
      simp only [List.getD_cons_zero, List.getD_cons_succ] at p4
      have p6 := hp 6 (by kernel_rfl)
      simp only [List.getD_cons_zero, List.getD_cons_succ] at p6
      exact dr_plain rfl (dr_ex (v := .bool (decide (x157.k = a1.k))) (Ex.binop rfl p4 p6 (eqlS61 _ _ _ _ _)) (Bw.refl _) rfl)
    intro vs W160 hE hv
    have hS0 := hS; replace hS := hS.ext hE
    have p0 : vs 0 = v := hv 0 (by decide)
    have p1 : vs 1 = .int .i64 (k : Int) := hv 1 (by decide)
    have p2 : vs 2 = .pointer (some ⟨b155, po156, none⟩) := hv 2 (by decide)
    have p3 : vs 3 = .pointer (some ⟨b155, po156, none⟩) := hv 3 (by decide)
    have p4 : vs 4 = .agg x157.k.enc := hv 4 (by decide)
    have p5 : vs 5 = .pointer (some ⟨b150, 0, none⟩) := hv 5 (by decide)
    have p6 : vs 6 = .agg a1.k.enc := hv 6 (by decide)
    have p7 : vs 7 = .bool (decide (x157.k = a1.k)) := hv 7 (by decide)
    refine WL.keep (k := [(14, v), (15, .int .i64 (k : Int)), (16, .pointer (some ⟨b155, po156, none⟩)), (17, .pointer (some ⟨b155, po156, none⟩)), (18, .agg x157.k.enc), (19, .pointer (some ⟨b150, 0, none⟩)), (20, .agg a1.k.enc), (21, .bool (decide (x157.k = a1.k)))]) ⟨p0, p1, p2, p3, p4, p5, p6, p7, trivial⟩ ?_
    refine WL.nil ?_
    refine then_normal ?_
    refine WP.cond (b := decide (x157.k = a1.k)) rfl (fun hc161 => ?_) (fun hc161 => ?_)
    ·
      have hc161' : x157.k = a1.k := by simpa using hc161
      refine WP.seq ?_
      refine WP.drawL 13 [(fun u_ _ => u_ = vo), (fun u_ _ => u_ = .pointer (some ⟨b150, 0, none⟩)), (fun u_ _ => u_ = .agg a1.k.enc), (fun u_ _ => u_ = v), (fun u_ _ => u_ = .int .i64 (k : Int)), (fun u_ _ => u_ = .pointer (some ⟨b155, po156, none⟩)), (fun u_ _ => u_ = .pointer (some ⟨b155, po156 + 12, none⟩)), (fun u_ _ => u_ = .agg x157.v.enc), (fun u_ _ => u_ = .pointer (some ⟨b150, 12, none⟩)), (fun u_ _ => u_ = .agg a1.v.enc), (fun u_ _ => u_ = .agg (x157.v.more a1.v).enc), (fun u_ _ => u_ = .agg (At.mk a1.k (x157.v.more a1.v)).enc), (fun u_ W_ => Sl W_ u_ [At.mk a1.k (x157.v.more a1.v)] ∧ New W160 u_)] (fun vs => (34, vs 12) :: (33, vs 11) :: (32, vs 10) :: (31, vs 9) :: (30, vs 8) :: (29, vs 7) :: (28, vs 6) :: (27, vs 5) :: (26, vs 4) :: (25, vs 3) :: (24, vs 2) :: (23, vs 1) :: (22, vs 0) :: _) ⟨fun _ _ _ _ h => h, fun _ _ _ _ h => h, fun _ _ _ _ h => h, fun _ _ _ _ h => h, fun _ _ _ _ h => h, fun _ _ _ _ h => h, fun _ _ _ _ h => h, fun _ _ _ _ h => h, fun _ _ _ _ h => h, fun _ _ _ _ h => h, fun _ _ _ _ h => h, fun _ _ _ _ h => h, mono_sl, trivial⟩ (by kernel_rfl) (fun _ => rfl) ⟨?_, ?_, ?_, ?_, ?_, ?_, ?_, ?_, ?_, ?_, ?_, ?_, ?_, trivial⟩ ?_
      ·
        intro vs W hE hp
        exact dr_plain rfl (dr_ex (v := vo) (Ex.move rfl rfl) (Bw.refl _) rfl)
      ·
        intro vs W hE hp
        exact dr_plain rfl (dr_ex (v := .pointer (some ⟨b150, 0, none⟩)) (Ex.fieldAddr' fieldAt71_0 rfl rfl) (Bw.refl _) rfl)
      ·
        intro vs W hE hp
        have p1 := hp 1 (by kernel_rfl)
        simp only [List.getD_cons_zero, List.getD_cons_succ] at p1
        exact dr_plain rfl (dr_ex (v := .agg a1.k.enc) (Ex.loadA tyAgg61 rfl p1 (Reads.of_block ((hS.ext hE).at 0 rfl) 0 a1.k.enc.toList rfl) rfl) (Bw.refl _) rfl)
      ·
        intro vs W hE hp
        exact dr_plain rfl (dr_ex (v := v) (Ex.move rfl rfl) (Bw.refl _) rfl)
      ·
        intro vs W hE hp
        exact dr_plain rfl (dr_ex (v := .int .i64 (k : Int)) (Ex.move rfl rfl) (Bw.refl _) rfl)
      ·
        intro vs W hE hp
        have p3 := hp 3 (by kernel_rfl)
        simp only [List.getD_cons_zero, List.getD_cons_succ] at p3
        have p4 := hp 4 (by kernel_rfl)
        simp only [List.getD_cons_zero, List.getD_cons_succ] at p4
        exact dr_plain rfl (dr_ex (v := .pointer (some ⟨b155, po156, none⟩)) (Ex.indexC hi159 rfl p3 p4) (Bw.refl _) rfl)
      ·
        intro vs W hE hp
        have p5 := hp 5 (by kernel_rfl)
        simp only [List.getD_cons_zero, List.getD_cons_succ] at p5
        exact dr_plain rfl (dr_ex (v := .pointer (some ⟨b155, po156 + 12, none⟩)) (Ex.fieldAddr' fieldAt71_1 rfl p5) (Bw.refl _) rfl)
      ·
        intro vs W hE hp
        have p6 := hp 6 (by kernel_rfl)
        simp only [List.getD_cons_zero, List.getD_cons_succ] at p6
        exact dr_plain rfl (dr_ex (v := .agg x157.v.enc) (Ex.loadA tyAgg67 rfl p6 (Reads.sub (cs := x157.enc.toList) ((hS.ext hE).get 0 rfl) 12 (ds := x157.v.enc.toList) rfl) rfl) (Bw.refl _) rfl)
      ·
        intro vs W hE hp
        exact dr_plain rfl (dr_ex (v := .pointer (some ⟨b150, 12, none⟩)) (Ex.fieldAddr' fieldAt71_1 rfl rfl) (Bw.refl _) rfl)
      ·
        intro vs W hE hp
        have p8 := hp 8 (by kernel_rfl)
        simp only [List.getD_cons_zero, List.getD_cons_succ] at p8
        exact dr_plain rfl (dr_ex (v := .agg a1.v.enc) (Ex.loadA tyAgg67 rfl p8 (Reads.of_block ((hS.ext hE).at 0 rfl) 12 a1.v.enc.toList rfl) rfl) (Bw.refl _) rfl)
      ·
        intro vs W hE hp
        have p7 := hp 7 (by kernel_rfl)
        simp only [List.getD_cons_zero, List.getD_cons_succ] at p7
        have p9 := hp 9 (by kernel_rfl)
        simp only [List.getD_cons_zero, List.getD_cons_succ] at p9
        exact dr_plain rfl (dr_callS (v := .agg (x157.v.more a1.v).enc) (enterS eg71 (args := [.agg x157.v.enc, .agg a1.v.enc]) rfl rfl rfl (l2 p7 p9)) (c_rmore x157.v a1.v _) (fun _ => rfl))
      ·
        intro vs W hE hp
        have p2 := hp 2 (by kernel_rfl)
        simp only [List.getD_cons_zero, List.getD_cons_succ] at p2
        have p10 := hp 10 (by kernel_rfl)
        simp only [List.getD_cons_zero, List.getD_cons_succ] at p10
        exact dr_plain rfl (dr_ex (v := .agg (At.mk a1.k (x157.v.more a1.v)).enc) (Ex.build (ps := [(0, .agg a1.k.enc), (1, .agg (x157.v.more a1.v).enc)]) rfl (m2 p2 p10) (by kernel_rfl)) (Bw.refl _) rfl)
      ·
        intro vs W hE hp
        have p11 := hp 11 (by kernel_rfl)
        simp only [List.getD_cons_zero, List.getD_cons_succ] at p11
        exact dr_plain rfl (dr_slice1 rfl (m1 p11) (fun _ _ => by kernel_rfl) hE)
      intro vs W162 hE hv
      have hS0 := hS; replace hS := hS.ext hE
      have p0 : vs 0 = vo := hv 0 (by decide)
      have p1 : vs 1 = .pointer (some ⟨b150, 0, none⟩) := hv 1 (by decide)
      have p2 : vs 2 = .agg a1.k.enc := hv 2 (by decide)
      have p3 : vs 3 = v := hv 3 (by decide)
      have p4 : vs 4 = .int .i64 (k : Int) := hv 4 (by decide)
      have p5 : vs 5 = .pointer (some ⟨b155, po156, none⟩) := hv 5 (by decide)
      have p6 : vs 6 = .pointer (some ⟨b155, po156 + 12, none⟩) := hv 6 (by decide)
      have p7 : vs 7 = .agg x157.v.enc := hv 7 (by decide)
      have p8 : vs 8 = .pointer (some ⟨b150, 12, none⟩) := hv 8 (by decide)
      have p9 : vs 9 = .agg a1.v.enc := hv 9 (by decide)
      have p10 : vs 10 = .agg (x157.v.more a1.v).enc := hv 10 (by decide)
      have p11 : vs 11 = .agg (At.mk a1.k (x157.v.more a1.v)).enc := hv 11 (by decide)
      have p12 := hv 12 (by decide)
      obtain ⟨hv12, hn12⟩ := p12; have p12 : vs 12 = vs 12 := rfl
      replace hS := hS0.pinNew hS (pinSl (vs 12) [At.mk a1.k (x157.v.more a1.v)]) hv12 hn12
      replace p12 : vs 12 = vs 12 := rfl
      refine WL.keep (k := [(22, vo), (23, .pointer (some ⟨b150, 0, none⟩)), (24, .agg a1.k.enc), (25, v), (26, .int .i64 (k : Int)), (27, .pointer (some ⟨b155, po156, none⟩)), (28, .pointer (some ⟨b155, po156 + 12, none⟩)), (29, .agg x157.v.enc), (30, .pointer (some ⟨b150, 12, none⟩)), (31, .agg a1.v.enc), (32, .agg (x157.v.more a1.v).enc), (33, .agg (At.mk a1.k (x157.v.more a1.v)).enc), (34, (vs 12))]) ⟨p0, p1, p2, p3, p4, p5, p6, p7, p8, p9, p10, p11, p12, trivial⟩ ?_
      refine WL.append (α := At) (a := At.mk a1.k (x157.v.more a1.v)) under22 infT71 rfl (by decide) (by decide) [(b150, .cells a1.enc 71)] hO hS (hS.mem (.head _)) (by omega) rfl rfl rfl rfl rfl rfl (fun vo163 eo164 W165 hO166 hS => ?_)
      refine WL.op (v := vo163) rfl rfl rfl (Ex.assign rfl rfl) ?_
      refine WL.nil ?_
      refine then_normal ?_
      refine WP.seq ?_
      refine WP.region ?_
      refine WL.op (v := .bool true) rfl rfl rfl (Ex.assign rfl rfl) ?_
      refine WL.nil ?_
      refine then_normal ?_
      refine WP.exit ?_
      refine then_exit (inBlock_same (?_))
      refine then_normal ?_
      refine WP.region ?_
      refine WL.op (v := .int .i64 (k : Int)) rfl rfl rfl (Ex.move rfl rfl) ?_
      refine WL.op (v := .int .i64 ((k + 1 : Nat) : Int)) rfl rfl rfl (Ex.add rfl rfl rfl (wrap_succ (by omega))) ?_
      refine WL.op (v := .int .i64 ((k + 1 : Nat) : Int)) rfl rfl rfl (Ex.assign rfl rfl) ?_
      refine WL.nil ?_
      refine then_normal ?_
      exact ⟨_, ⟨k + 1, vo163, eo164, d ++ [At.mk a1.k (x157.v.more a1.v)], true, _, fr_keep ⟨rfl, rfl, rfl, rfl, rfl, rfl, trivial⟩, rfl, by omega, hS.drop 0 2, hO166, (by rw [putF_snoc hx158, ← hst]; simp [putStep, hc161']), (by simp only [List.length_append, List.length_cons, List.length_nil]; omega)⟩, by simp only [id]; omega⟩
    ·
      have hc161' : ¬ (x157.k = a1.k) := by simpa using hc161
      refine WP.skip ?_
      refine then_normal ?_
      refine WP.seq ?_
      refine WP.seq ?_
      rcases Bool.eq_false_or_eq_true (!db) with hg167 | hg167
      ·
        have hc168 : db = false := by simpa using hg167
        refine WP.drawL 12 [(fun u_ _ => u_ = .bool db), (fun u_ _ => u_ = .bool (!db)), (fun u_ _ => u_ = .bool (!db)), (fun u_ _ => u_ = .pointer (some ⟨b150, 0, none⟩)), (fun u_ _ => u_ = .agg a1.k.enc), (fun u_ _ => u_ = v), (fun u_ _ => u_ = .int .i64 (k : Int)), (fun u_ _ => u_ = .pointer (some ⟨b155, po156, none⟩)), (fun u_ _ => u_ = .pointer (some ⟨b155, po156, none⟩)), (fun u_ _ => u_ = .agg x157.k.enc), (fun u_ _ => u_ = .bool (a1.k.lt x157.k)), (fun u_ _ => u_ = .bool (a1.k.lt x157.k))] (fun vs => (47, vs 11) :: (46, vs 10) :: (45, vs 9) :: (44, vs 8) :: (43, vs 7) :: (42, vs 6) :: (41, vs 5) :: (40, vs 4) :: (39, vs 3) :: (38, vs 2) :: (37, vs 1) :: (36, vs 0) :: _) ⟨fun _ _ _ _ h => h, fun _ _ _ _ h => h, fun _ _ _ _ h => h, fun _ _ _ _ h => h, fun _ _ _ _ h => h, fun _ _ _ _ h => h, fun _ _ _ _ h => h, fun _ _ _ _ h => h, fun _ _ _ _ h => h, fun _ _ _ _ h => h, fun _ _ _ _ h => h, fun _ _ _ _ h => h, trivial⟩ (by kernel_rfl) (fun _ => rfl) ⟨?_, ?_, ?_, ?_, ?_, ?_, ?_, ?_, ?_, ?_, ?_, ?_, trivial⟩ ?_
        ·
          intro vs W hE hp
          exact dr_plain rfl (dr_ex (v := .bool db) (Ex.move rfl rfl) (Bw.refl _) rfl)
        ·
          intro vs W hE hp
          have p0 := hp 0 (by kernel_rfl)
          simp only [List.getD_cons_zero, List.getD_cons_succ] at p0
          exact dr_plain rfl (dr_ex (v := .bool (!db)) (Ex.not rfl p0) (Bw.refl _) rfl)
        ·
          intro vs W hE hp
          have p1 := hp 1 (by kernel_rfl)
          simp only [List.getD_cons_zero, List.getD_cons_succ] at p1
          exact dr_plain rfl (dr_ex (v := .bool (!db)) (Ex.move rfl p1) (Bw.refl _) rfl)
        ·
          intro vs W hE hp
          have p2 := hp 2 (by kernel_rfl)
          simp only [List.getD_cons_zero, List.getD_cons_succ] at p2
          exact dr_on rfl rfl rfl p2 (congrArg Value.bool hg167) (dr_ex (v := .pointer (some ⟨b150, 0, none⟩)) (Ex.fieldAddr' fieldAt71_0 rfl rfl) (Bw.refl _) rfl)
        ·
          intro vs W hE hp
          have p2 := hp 2 (by kernel_rfl)
          simp only [List.getD_cons_zero, List.getD_cons_succ] at p2
          have p3 := hp 3 (by kernel_rfl)
          simp only [List.getD_cons_zero, List.getD_cons_succ] at p3
          exact dr_on rfl rfl rfl p2 (congrArg Value.bool hg167) (dr_ex (v := .agg a1.k.enc) (Ex.loadA tyAgg61 rfl p3 (Reads.of_block ((hS.ext hE).at 0 rfl) 0 a1.k.enc.toList rfl) rfl) (Bw.refl _) rfl)
        ·
          intro vs W hE hp
          have p2 := hp 2 (by kernel_rfl)
          simp only [List.getD_cons_zero, List.getD_cons_succ] at p2
          exact dr_on rfl rfl rfl p2 (congrArg Value.bool hg167) (dr_ex (v := v) (Ex.move rfl rfl) (Bw.refl _) rfl)
        ·
          intro vs W hE hp
          have p2 := hp 2 (by kernel_rfl)
          simp only [List.getD_cons_zero, List.getD_cons_succ] at p2
          exact dr_on rfl rfl rfl p2 (congrArg Value.bool hg167) (dr_ex (v := .int .i64 (k : Int)) (Ex.move rfl rfl) (Bw.refl _) rfl)
        ·
          intro vs W hE hp
          have p2 := hp 2 (by kernel_rfl)
          simp only [List.getD_cons_zero, List.getD_cons_succ] at p2
          have p5 := hp 5 (by kernel_rfl)
          simp only [List.getD_cons_zero, List.getD_cons_succ] at p5
          have p6 := hp 6 (by kernel_rfl)
          simp only [List.getD_cons_zero, List.getD_cons_succ] at p6
          exact dr_on rfl rfl rfl p2 (congrArg Value.bool hg167) (dr_ex (v := .pointer (some ⟨b155, po156, none⟩)) (Ex.indexC hi159 rfl p5 p6) (Bw.refl _) rfl)
        ·
          intro vs W hE hp
          have p2 := hp 2 (by kernel_rfl)
          simp only [List.getD_cons_zero, List.getD_cons_succ] at p2
          have p7 := hp 7 (by kernel_rfl)
          simp only [List.getD_cons_zero, List.getD_cons_succ] at p7
          exact dr_on rfl rfl rfl p2 (congrArg Value.bool hg167) (dr_ex (v := .pointer (some ⟨b155, po156, none⟩)) (Ex.fieldAddr' fieldAt71_0 rfl p7) (Bw.refl _) rfl)
        ·
          intro vs W hE hp
          have p2 := hp 2 (by kernel_rfl)
          simp only [List.getD_cons_zero, List.getD_cons_succ] at p2
          have p8 := hp 8 (by kernel_rfl)
          simp only [List.getD_cons_zero, List.getD_cons_succ] at p8
          exact dr_on rfl rfl rfl p2 (congrArg Value.bool hg167) (dr_ex (v := .agg x157.k.enc) (Ex.loadA tyAgg61 rfl p8 (Reads.sub (cs := x157.enc.toList) ((hS.ext hE).get 0 rfl) 0 (ds := x157.k.enc.toList) rfl) rfl) (Bw.refl _) rfl)
        ·
          intro vs W hE hp
          have p2 := hp 2 (by kernel_rfl)
          simp only [List.getD_cons_zero, List.getD_cons_succ] at p2
          have p4 := hp 4 (by kernel_rfl)
          simp only [List.getD_cons_zero, List.getD_cons_succ] at p4
          have p9 := hp 9 (by kernel_rfl)
          simp only [List.getD_cons_zero, List.getD_cons_succ] at p9
          exact dr_on rfl rfl rfl p2 (congrArg Value.bool hg167) (dr_callS (v := .bool (a1.k.lt x157.k)) (enterS eg70 (args := [.agg a1.k.enc, .agg x157.k.enc]) rfl rfl rfl (l2 p4 p9)) (c_rless a1.k x157.k _) (fun _ => rfl))
        ·
          intro vs W hE hp
          have p2 := hp 2 (by kernel_rfl)
          simp only [List.getD_cons_zero, List.getD_cons_succ] at p2
          have p10 := hp 10 (by kernel_rfl)
          simp only [List.getD_cons_zero, List.getD_cons_succ] at p10
          exact dr_plain rfl (dr_ex (v := .bool (a1.k.lt x157.k)) (Ex.pickT rfl (p2.trans (congrArg Value.bool hg167)) p10) (Bw.refl _) rfl)
        intro vs W169 hE hv
        have hS0 := hS; replace hS := hS.ext hE
        have p0 : vs 0 = .bool db := hv 0 (by decide)
        have p1 : vs 1 = .bool (!db) := hv 1 (by decide)
        have p2 : vs 2 = .bool (!db) := hv 2 (by decide)
        have p3 : vs 3 = .pointer (some ⟨b150, 0, none⟩) := hv 3 (by decide)
        have p4 : vs 4 = .agg a1.k.enc := hv 4 (by decide)
        have p5 : vs 5 = v := hv 5 (by decide)
        have p6 : vs 6 = .int .i64 (k : Int) := hv 6 (by decide)
        have p7 : vs 7 = .pointer (some ⟨b155, po156, none⟩) := hv 7 (by decide)
        have p8 : vs 8 = .pointer (some ⟨b155, po156, none⟩) := hv 8 (by decide)
        have p9 : vs 9 = .agg x157.k.enc := hv 9 (by decide)
        have p10 : vs 10 = .bool (a1.k.lt x157.k) := hv 10 (by decide)
        have p11 : vs 11 = .bool (a1.k.lt x157.k) := hv 11 (by decide)
        refine WL.keep (k := [(36, .bool db), (37, .bool (!db)), (38, .bool (!db)), (39, .pointer (some ⟨b150, 0, none⟩)), (40, .agg a1.k.enc), (41, v), (42, .int .i64 (k : Int)), (43, .pointer (some ⟨b155, po156, none⟩)), (44, .pointer (some ⟨b155, po156, none⟩)), (45, .agg x157.k.enc), (46, .bool (a1.k.lt x157.k)), (47, .bool (a1.k.lt x157.k))]) ⟨p0, p1, p2, p3, p4, p5, p6, p7, p8, p9, p10, p11, trivial⟩ ?_
        refine WL.nil ?_
        refine then_normal ?_
        refine WP.cond (b := a1.k.lt x157.k) rfl (fun hc170 => ?_) (fun hc170 => ?_)
        ·
          refine WP.seq ?_
          refine WP.region ?_
          refine WL.op (v := vo) rfl rfl rfl (Ex.move rfl rfl) ?_
          refine WL.op (v := .agg a1.enc) rfl rfl rfl (Ex.loadA tyAgg71 rfl rfl (Reads.of_block (hS.at 0 rfl) 0 a1.enc.toList rfl) rfl) ?_
          refine WL.buildSlice (ps := [(0, .agg a1.enc)]) (C := a1.enc) (E := 71) rfl (fun _ => by kernel_rfl) hS rfl rfl rfl rfl (fun b171 W172 hS => ?_)
          have hNb171 : w.heap.size ≤ b171 := hS.ge 0 rfl
          replace hS := hS.slice (α := At) (xs := [a1]) (cap := 1) rfl (by simp)
          refine WL.append (α := At) (a := a1) under22 infT71 rfl (by decide) (by decide) [(b150, .cells a1.enc 71)] hO hS (hS.mem (.head _)) (by omega) rfl rfl rfl rfl rfl rfl (fun vo173 eo174 W175 hO176 hS => ?_)
          refine WL.op (v := vo173) rfl rfl rfl (Ex.assign rfl rfl) ?_
          refine WL.nil ?_
          refine then_normal ?_
          refine WP.region ?_
          refine WL.op (v := .bool true) rfl rfl rfl (Ex.assign rfl rfl) ?_
          refine WL.nil ?_
          refine then_normal ?_
          refine WP.region ?_
          refine WL.op (v := vo173) rfl rfl rfl (Ex.move rfl rfl) ?_
          refine WL.op (v := v) rfl rfl rfl (Ex.move rfl rfl) ?_
          refine WL.op (v := .int .i64 (k : Int)) rfl rfl rfl (Ex.move rfl rfl) ?_
          refine WL.op (v := .pointer (some ⟨b155, po156, none⟩)) rfl rfl rfl (Ex.indexC hi159 rfl rfl rfl) ?_
          refine WL.op (v := .agg x157.enc) rfl rfl rfl (Ex.loadA tyAgg71 rfl rfl (Reads.sub (cs := x157.enc.toList) (hS.get 1 rfl) 0 (ds := x157.enc.toList) rfl) rfl) ?_
          refine WL.buildSlice (ps := [(0, .agg x157.enc)]) (C := x157.enc) (E := 71) rfl (fun _ => by kernel_rfl) hS rfl rfl rfl rfl (fun b177 W178 hS => ?_)
          have hNb177 : w.heap.size ≤ b177 := hS.ge 0 rfl
          replace hS := hS.slice (α := At) (xs := [x157]) (cap := 1) rfl (by simp)
          refine WL.append (α := At) (a := x157) under22 infT71 rfl (by decide) (by decide) [(b150, .cells a1.enc 71)] hO176 hS (hS.mem (.head _)) (by simp only [List.length_append, List.length_cons, List.length_nil]; omega) rfl rfl rfl rfl rfl rfl (fun vo179 eo180 W181 hO182 hS => ?_)
          refine WL.op (v := vo179) rfl rfl rfl (Ex.assign rfl rfl) ?_
          refine WL.nil ?_
          refine inBlock_normal ?_
          refine then_normal ?_
          refine WP.region ?_
          refine WL.op (v := .int .i64 (k : Int)) rfl rfl rfl (Ex.move rfl rfl) ?_
          refine WL.op (v := .int .i64 ((k + 1 : Nat) : Int)) rfl rfl rfl (Ex.add rfl rfl rfl (wrap_succ (by omega))) ?_
          refine WL.op (v := .int .i64 ((k + 1 : Nat) : Int)) rfl rfl rfl (Ex.assign rfl rfl) ?_
          refine WL.nil ?_
          refine then_normal ?_
          exact ⟨_, ⟨k + 1, vo179, eo180, d ++ [a1] ++ [x157], true, _, fr_keep ⟨rfl, rfl, rfl, rfl, rfl, rfl, trivial⟩, rfl, by omega, hS.drop 0 3, hO182, (by rw [putF_snoc hx158, ← hst]; simp [putStep, hc161', hc168, hc170]), (by simp only [List.length_append, List.length_cons, List.length_nil]; omega)⟩, by simp only [id]; omega⟩
        ·
          refine WP.skip ?_
          refine then_normal ?_
          refine WP.region ?_
          refine WL.op (v := vo) rfl rfl rfl (Ex.move rfl rfl) ?_
          refine WL.op (v := v) rfl rfl rfl (Ex.move rfl rfl) ?_
          refine WL.op (v := .int .i64 (k : Int)) rfl rfl rfl (Ex.move rfl rfl) ?_
          refine WL.op (v := .pointer (some ⟨b155, po156, none⟩)) rfl rfl rfl (Ex.indexC hi159 rfl rfl rfl) ?_
          refine WL.op (v := .agg x157.enc) rfl rfl rfl (Ex.loadA tyAgg71 rfl rfl (Reads.sub (cs := x157.enc.toList) (hS.get 0 rfl) 0 (ds := x157.enc.toList) rfl) rfl) ?_
          refine WL.buildSlice (ps := [(0, .agg x157.enc)]) (C := x157.enc) (E := 71) rfl (fun _ => by kernel_rfl) hS rfl rfl rfl rfl (fun b183 W184 hS => ?_)
          have hNb183 : w.heap.size ≤ b183 := hS.ge 0 rfl
          replace hS := hS.slice (α := At) (xs := [x157]) (cap := 1) rfl (by simp)
          refine WL.append (α := At) (a := x157) under22 infT71 rfl (by decide) (by decide) [(b150, .cells a1.enc 71)] hO hS (hS.mem (.head _)) (by omega) rfl rfl rfl rfl rfl rfl (fun vo185 eo186 W187 hO188 hS => ?_)
          refine WL.op (v := vo185) rfl rfl rfl (Ex.assign rfl rfl) ?_
          refine WL.nil ?_
          refine inBlock_normal ?_
          refine then_normal ?_
          refine WP.region ?_
          refine WL.op (v := .int .i64 (k : Int)) rfl rfl rfl (Ex.move rfl rfl) ?_
          refine WL.op (v := .int .i64 ((k + 1 : Nat) : Int)) rfl rfl rfl (Ex.add rfl rfl rfl (wrap_succ (by omega))) ?_
          refine WL.op (v := .int .i64 ((k + 1 : Nat) : Int)) rfl rfl rfl (Ex.assign rfl rfl) ?_
          refine WL.nil ?_
          refine then_normal ?_
          exact ⟨_, ⟨k + 1, vo185, eo186, d ++ [x157], db, _, fr_keep ⟨rfl, rfl, rfl, rfl, rfl, rfl, trivial⟩, rfl, by omega, hS.drop 0 2, hO188, (by rw [putF_snoc hx158, ← hst]; simp [putStep, hc161', hc168, hc170]), (by simp only [List.length_append, List.length_cons, List.length_nil]; omega)⟩, by simp only [id]; omega⟩
      ·
        have hc189 : db = true := by simpa using hg167
        refine WP.drawL 12 [(fun u_ _ => u_ = .bool db), (fun u_ _ => u_ = .bool (!db)), (fun u_ _ => u_ = .bool (!db)), (fun u_ _ => u_ = undef), (fun u_ _ => u_ = undef), (fun u_ _ => u_ = undef), (fun u_ _ => u_ = undef), (fun u_ _ => u_ = undef), (fun u_ _ => u_ = undef), (fun u_ _ => u_ = undef), (fun u_ _ => u_ = undef), (fun u_ _ => u_ = .bool false)] (fun vs => (47, vs 11) :: (46, vs 10) :: (45, vs 9) :: (44, vs 8) :: (43, vs 7) :: (42, vs 6) :: (41, vs 5) :: (40, vs 4) :: (39, vs 3) :: (38, vs 2) :: (37, vs 1) :: (36, vs 0) :: _) ⟨fun _ _ _ _ h => h, fun _ _ _ _ h => h, fun _ _ _ _ h => h, fun _ _ _ _ h => h, fun _ _ _ _ h => h, fun _ _ _ _ h => h, fun _ _ _ _ h => h, fun _ _ _ _ h => h, fun _ _ _ _ h => h, fun _ _ _ _ h => h, fun _ _ _ _ h => h, fun _ _ _ _ h => h, trivial⟩ (by kernel_rfl) (fun _ => rfl) ⟨?_, ?_, ?_, ?_, ?_, ?_, ?_, ?_, ?_, ?_, ?_, ?_, trivial⟩ ?_
        ·
          intro vs W hE hp
          exact dr_plain rfl (dr_ex (v := .bool db) (Ex.move rfl rfl) (Bw.refl _) rfl)
        ·
          intro vs W hE hp
          have p0 := hp 0 (by kernel_rfl)
          simp only [List.getD_cons_zero, List.getD_cons_succ] at p0
          exact dr_plain rfl (dr_ex (v := .bool (!db)) (Ex.not rfl p0) (Bw.refl _) rfl)
        ·
          intro vs W hE hp
          have p1 := hp 1 (by kernel_rfl)
          simp only [List.getD_cons_zero, List.getD_cons_succ] at p1
          exact dr_plain rfl (dr_ex (v := .bool (!db)) (Ex.move rfl p1) (Bw.refl _) rfl)
        ·
          intro vs W hE hp
          have p2 := hp 2 (by kernel_rfl)
          simp only [List.getD_cons_zero, List.getD_cons_succ] at p2
          exact dr_off rfl rfl rfl p2 (congrArg Value.bool hg167) rfl rfl
        ·
          intro vs W hE hp
          have p2 := hp 2 (by kernel_rfl)
          simp only [List.getD_cons_zero, List.getD_cons_succ] at p2
          have p3 := hp 3 (by kernel_rfl)
          simp only [List.getD_cons_zero, List.getD_cons_succ] at p3
          exact dr_off rfl rfl rfl p2 (congrArg Value.bool hg167) rfl rfl
        ·
          intro vs W hE hp
          have p2 := hp 2 (by kernel_rfl)
          simp only [List.getD_cons_zero, List.getD_cons_succ] at p2
          exact dr_off rfl rfl rfl p2 (congrArg Value.bool hg167) rfl rfl
        ·
          intro vs W hE hp
          have p2 := hp 2 (by kernel_rfl)
          simp only [List.getD_cons_zero, List.getD_cons_succ] at p2
          exact dr_off rfl rfl rfl p2 (congrArg Value.bool hg167) rfl rfl
        ·
          intro vs W hE hp
          have p2 := hp 2 (by kernel_rfl)
          simp only [List.getD_cons_zero, List.getD_cons_succ] at p2
          have p5 := hp 5 (by kernel_rfl)
          simp only [List.getD_cons_zero, List.getD_cons_succ] at p5
          have p6 := hp 6 (by kernel_rfl)
          simp only [List.getD_cons_zero, List.getD_cons_succ] at p6
          exact dr_off rfl rfl rfl p2 (congrArg Value.bool hg167) rfl rfl
        ·
          intro vs W hE hp
          have p2 := hp 2 (by kernel_rfl)
          simp only [List.getD_cons_zero, List.getD_cons_succ] at p2
          have p7 := hp 7 (by kernel_rfl)
          simp only [List.getD_cons_zero, List.getD_cons_succ] at p7
          exact dr_off rfl rfl rfl p2 (congrArg Value.bool hg167) rfl rfl
        ·
          intro vs W hE hp
          have p2 := hp 2 (by kernel_rfl)
          simp only [List.getD_cons_zero, List.getD_cons_succ] at p2
          have p8 := hp 8 (by kernel_rfl)
          simp only [List.getD_cons_zero, List.getD_cons_succ] at p8
          exact dr_off rfl rfl rfl p2 (congrArg Value.bool hg167) rfl rfl
        ·
          intro vs W hE hp
          have p2 := hp 2 (by kernel_rfl)
          simp only [List.getD_cons_zero, List.getD_cons_succ] at p2
          have p4 := hp 4 (by kernel_rfl)
          simp only [List.getD_cons_zero, List.getD_cons_succ] at p4
          have p9 := hp 9 (by kernel_rfl)
          simp only [List.getD_cons_zero, List.getD_cons_succ] at p9
          exact dr_off rfl rfl rfl p2 (congrArg Value.bool hg167) rfl rfl
        ·
          intro vs W hE hp
          have p2 := hp 2 (by kernel_rfl)
          simp only [List.getD_cons_zero, List.getD_cons_succ] at p2
          have p10 := hp 10 (by kernel_rfl)
          simp only [List.getD_cons_zero, List.getD_cons_succ] at p10
          exact dr_plain rfl (dr_ex (v := .bool false) (Ex.pickF rfl (p2.trans (congrArg Value.bool hg167)) rfl) (Bw.refl _) rfl)
        intro vs W190 hE hv
        have hS0 := hS; replace hS := hS.ext hE
        have p0 : vs 0 = .bool db := hv 0 (by decide)
        have p1 : vs 1 = .bool (!db) := hv 1 (by decide)
        have p2 : vs 2 = .bool (!db) := hv 2 (by decide)
        have p11 : vs 11 = .bool false := hv 11 (by decide)
        refine WL.keep (k := [(36, .bool db), (37, .bool (!db)), (38, .bool (!db)), (47, .bool false)]) ⟨p0, p1, p2, p11, trivial⟩ ?_
        refine WL.nil ?_
        refine then_normal ?_
        refine WP.condF rfl ?_
        refine WP.skip ?_
        refine then_normal ?_
        refine WP.region ?_
        refine WL.op (v := vo) rfl rfl rfl (Ex.move rfl rfl) ?_
        refine WL.op (v := v) rfl rfl rfl (Ex.move rfl rfl) ?_
        refine WL.op (v := .int .i64 (k : Int)) rfl rfl rfl (Ex.move rfl rfl) ?_
        refine WL.op (v := .pointer (some ⟨b155, po156, none⟩)) rfl rfl rfl (Ex.indexC hi159 rfl rfl rfl) ?_
        refine WL.op (v := .agg x157.enc) rfl rfl rfl (Ex.loadA tyAgg71 rfl rfl (Reads.sub (cs := x157.enc.toList) (hS.get 0 rfl) 0 (ds := x157.enc.toList) rfl) rfl) ?_
        refine WL.buildSlice (ps := [(0, .agg x157.enc)]) (C := x157.enc) (E := 71) rfl (fun _ => by kernel_rfl) hS rfl rfl rfl rfl (fun b191 W192 hS => ?_)
        have hNb191 : w.heap.size ≤ b191 := hS.ge 0 rfl
        replace hS := hS.slice (α := At) (xs := [x157]) (cap := 1) rfl (by simp)
        refine WL.append (α := At) (a := x157) under22 infT71 rfl (by decide) (by decide) [(b150, .cells a1.enc 71)] hO hS (hS.mem (.head _)) (by omega) rfl rfl rfl rfl rfl rfl (fun vo193 eo194 W195 hO196 hS => ?_)
        refine WL.op (v := vo193) rfl rfl rfl (Ex.assign rfl rfl) ?_
        refine WL.nil ?_
        refine inBlock_normal ?_
        refine then_normal ?_
        refine WP.region ?_
        refine WL.op (v := .int .i64 (k : Int)) rfl rfl rfl (Ex.move rfl rfl) ?_
        refine WL.op (v := .int .i64 ((k + 1 : Nat) : Int)) rfl rfl rfl (Ex.add rfl rfl rfl (wrap_succ (by omega))) ?_
        refine WL.op (v := .int .i64 ((k + 1 : Nat) : Int)) rfl rfl rfl (Ex.assign rfl rfl) ?_
        refine WL.nil ?_
        refine then_normal ?_
        exact ⟨_, ⟨k + 1, vo193, eo194, d ++ [x157], db, _, fr_keep ⟨rfl, rfl, rfl, rfl, rfl, rfl, trivial⟩, rfl, by omega, hS.drop 0 2, hO196, (by rw [putF_snoc hx158, ← hst]; simp [putStep, hc161', hc189]), (by simp only [List.length_append, List.length_cons, List.length_nil]; omega)⟩, by simp only [id]; omega⟩
  ·
    have hc154' : ¬ ((k : Int) < (l.length : Int)) := by simpa using hc154
    refine WP.exit ?_
    refine then_exit (then_exit (inBlock_same (?_)))
    refine then_normal ?_
    refine WP.seq ?_
    refine WP.seq ?_
    refine WP.region ?_
    refine WL.op (v := .bool db) rfl rfl rfl (Ex.move rfl rfl) ?_
    refine WL.op (v := .bool (!db)) rfl rfl rfl (Ex.not rfl rfl) ?_
    refine WL.nil ?_
    refine then_normal ?_
    refine WP.cond (b := !db) rfl (fun hc197 => ?_) (fun hc197 => ?_)
    ·
      have hc198 : db = false := by simpa using hc197
      refine WP.region ?_
      refine WL.op (v := vo) rfl rfl rfl (Ex.move rfl rfl) ?_
      refine WL.op (v := .agg a1.enc) rfl rfl rfl (Ex.loadA tyAgg71 rfl rfl (Reads.of_block (hS.at 0 rfl) 0 a1.enc.toList rfl) rfl) ?_
      refine WL.buildSlice (ps := [(0, .agg a1.enc)]) (C := a1.enc) (E := 71) rfl (fun _ => by kernel_rfl) hS rfl rfl rfl rfl (fun b199 W200 hS => ?_)
      have hNb199 : w.heap.size ≤ b199 := hS.ge 0 rfl
      replace hS := hS.slice (α := At) (xs := [a1]) (cap := 1) rfl (by simp)
      refine WL.append (α := At) (a := a1) under22 infT71 rfl (by decide) (by decide) [(b150, .cells a1.enc 71)] hO hS (hS.mem (.head _)) (by omega) rfl rfl rfl rfl rfl rfl (fun vo201 eo202 W203 hO204 hS => ?_)
      refine WL.op (v := vo201) rfl rfl rfl (Ex.assign rfl rfl) ?_
      refine WL.nil ?_
      refine then_normal ?_
      refine WP.seq ?_
      refine WP.region ?_
      refine WL.op (v := vo201) rfl rfl rfl (Ex.move rfl rfl) ?_
      refine WL.op (v := vo201) rfl rfl rfl (Ex.assign rfl rfl) ?_
      refine WL.nil ?_
      refine then_normal ?_
      refine WP.ret ?_
      refine ?_
      refine rt1 (v := vo201) rfl rfl ?_
      have hr : putRow l a1 = d ++ [a1] := by rw [show k = l.length by omega, List.take_length] at hst; rw [putRow, ← hst]; simp [hc198]
      have hz := OutG.sl (pre := [(b150, .cells a1.enc 71)]) hO204 hS (by simp only [List.length_append, List.length_cons, List.length_nil]; omega)
      exact ⟨_, rfl, hS.bw, (by rw [hr]; exact hz.1), hz.2⟩
    ·
      have hc205 : db = true := by simpa using hc197
      refine WP.skip ?_
      refine then_normal ?_
      refine WP.seq ?_
      refine WP.region ?_
      refine WL.op (v := vo) rfl rfl rfl (Ex.move rfl rfl) ?_
      refine WL.op (v := vo) rfl rfl rfl (Ex.assign rfl rfl) ?_
      refine WL.nil ?_
      refine then_normal ?_
      refine WP.ret ?_
      refine ?_
      refine rt1 (v := vo) rfl rfl ?_
      have hr : putRow l a1 = d := by rw [show k = l.length by omega, List.take_length] at hst; rw [putRow, ← hst]; simp [hc205]
      have hz := OutG.sl (pre := [(b150, .cells a1.enc 71)]) hO hS (by omega)
      exact ⟨_, rfl, hS.bw, (by rw [hr]; exact hz.1), hz.2⟩
set_option maxRecDepth 100000 in
set_option maxHeartbeats 1000000 in
theorem c_rnorm (v : Value) (l : List At) (w : World) (hv : Sl w v l) (hl : l.length ≤ 1048576) :
    Calls Try.prog 66 #[v] w fun e w' => ∃ v', e = .returned v' ∧ Bw w w' ∧ Sl w' v' (normAt l) ∧ (New w v' ∨ v' = v) := by
  have hS := St.begin (w := w) (pins := pinSl v l :: []) ⟨hv, trivial⟩
  refine enter (n := 26) Try.func66 rfl rfl (Nat.le_of_ble_eq_true rfl) (l := [(0, v)]) rfl ?_
  refine WP.seq ?_
  refine WP.region ?_
  refine WL.op (v := .slice none 0 0) rfl rfl rfl (Ex.assign rfl rfl) ?_
  refine WL.nil ?_
  refine then_normal ?_
  refine WP.seq ?_
  refine WP.seq ?_
  refine WP.region ?_
  refine WL.op (v := v) rfl rfl rfl (Ex.move rfl rfl) ?_
  refine WL.call rfl rfl rfl (enterS eg105 (args := [v]) rfl rfl rfl rfl) (c_rrows _ l _ (hS.mem (.head _))) ?_
  rintro e W206 ⟨rfl, hB⟩
  replace hS := hS.ext hB
  refine ⟨_, rfl, ?_⟩
  refine WL.nil ?_
  refine then_normal ?_
  refine WP.cond (b := latRight l) rfl (fun hc207 => ?_) (fun hc207 => ?_)
  ·
    refine WP.seq ?_
    refine WP.region ?_
    refine WL.op (v := v) rfl rfl rfl (Ex.move rfl rfl) ?_
    refine WL.op (v := v) rfl rfl rfl (Ex.assign rfl rfl) ?_
    refine WL.nil ?_
    refine then_normal ?_
    refine WP.ret ?_
    refine then_ret (?_)
    refine rt1 (v := v) rfl rfl ?_
    exact ⟨_, rfl, hS.bw, (by rw [norm_right hc207]; exact hS.mem (.head _)), .inr rfl⟩
  ·
    refine WP.skip ?_
    refine then_normal ?_
    refine WP.seq ?_
    refine WP.region ?_
    refine WL.op (v := .slice none 0 0) rfl rfl rfl (Ex.assign rfl rfl) ?_
    refine WL.nil ?_
    refine then_normal ?_
    refine WP.seq ?_
    refine WP.seq ?_
    refine WP.region ?_
    refine WL.op (v := .int .i64 0) rfl rfl rfl (Ex.assign rfl rfl) ?_
    refine WL.nil ?_
    refine then_normal ?_
    refine WP.block ?_
    replace hS := hS.pinNil (α := At)
    refine WP.loop (fun (μ : Nat) a W => ∃ (k : Nat), ∃ (vo : Value), ∃ (d : List At), ∃ (l0 : Fr), a = fr 26 [] ([(0, v), (2, .slice none 0 0), (4, .int .i64 (k : Int)), (3, vo)] ++ l0) ∧ μ = l.length - k ∧ k ≤ l.length ∧ St w ([]) (pinSl vo d :: pinSl v l :: []) W ∧ (d = normAt (l.take k)) ∧ (New w vo)) id _ ⟨0, _, _, _, fr_keep ⟨rfl, rfl, rfl, rfl, trivial⟩, rfl, by omega, hS, rfl, fun b hb => by cases hb⟩ ?_
    rintro μ a W208 ⟨k, vo, d, l0, rfl, rfl, hk, hS, hd, hn⟩
    refine WP.seq ?_
    refine WP.seq ?_
    refine WP.region ?_
    refine WL.op (v := .int .i64 (k : Int)) rfl rfl rfl (Ex.move rfl rfl) ?_
    refine WL.op (v := v) rfl rfl rfl (Ex.move rfl rfl) ?_
    have hl209 : l.length < 4611686018427387904 := (hS.mem (.tail _ (.head _)) : Sl _ _ _).lt
    refine WL.op (v := .int .i64 (l.length : Int)) rfl rfl rfl (Ex.lenSl (l := l) ⟨_, under22⟩ rfl rfl (hS.mem (.tail _ (.head _)))) ?_
    refine WL.op (v := .bool (decide ((k : Int) < (l.length : Int)))) rfl rfl rfl (Ex.lt rfl rfl rfl) ?_
    refine WL.nil ?_
    refine then_normal ?_
    refine WP.cond (b := decide ((k : Int) < (l.length : Int))) rfl (fun hc210 => ?_) (fun hc210 => ?_)
    ·
      have hc210' : (k : Int) < (l.length : Int) := by simpa using hc210
      refine WP.skip ?_
      refine then_normal ?_
      refine WP.seq ?_
      refine WP.block ?_
      refine WP.seq ?_
      refine WP.region ?_
      refine WL.op (v := v) rfl rfl rfl (Ex.move rfl rfl) ?_
      refine WL.op (v := .int .i64 (k : Int)) rfl rfl rfl (Ex.move rfl rfl) ?_
      obtain ⟨b211, po212, x213, hx214, hi215, hS⟩ := hS.elem (α := At) (k := k) (.tail _ (.head _)) under22 tySz71 (by omega)
      refine WL.op (v := .pointer (some ⟨b211, po212, none⟩)) rfl rfl rfl (Ex.indexC hi215 rfl rfl rfl) ?_
      refine WL.op (v := .agg x213.enc) rfl rfl rfl (Ex.loadA tyAgg71 rfl rfl (Reads.sub (cs := x213.enc.toList) (hS.get 0 rfl) 0 (ds := x213.enc.toList) rfl) rfl) ?_
      refine WL.call rfl rfl rfl (enterS eg106 (args := [.agg x213.enc]) rfl rfl rfl rfl) (c_raright x213 _) ?_
      rintro e W216 ⟨rfl, hB⟩
      replace hS := hS.ext hB
      refine ⟨_, rfl, ?_⟩
      refine WL.nil ?_
      refine then_normal ?_
      refine WP.cond (b := x213.right) rfl (fun hc217 => ?_) (fun hc217 => ?_)
      ·
        refine WP.region ?_
        refine WL.op (v := vo) rfl rfl rfl (Ex.move rfl rfl) ?_
        refine WL.op (v := v) rfl rfl rfl (Ex.move rfl rfl) ?_
        refine WL.op (v := .int .i64 (k : Int)) rfl rfl rfl (Ex.move rfl rfl) ?_
        refine WL.op (v := .pointer (some ⟨b211, po212, none⟩)) rfl rfl rfl (Ex.indexC hi215 rfl rfl rfl) ?_
        refine WL.op (v := .agg x213.enc) rfl rfl rfl (Ex.loadA tyAgg71 rfl rfl (Reads.sub (cs := x213.enc.toList) (hS.get 0 rfl) 0 (ds := x213.enc.toList) rfl) rfl) ?_
        have hdl : d.length ≤ k := by rw [hd]; exact Nat.le_trans (normAt_length _) (by rw [List.length_take]; omega)
        refine WL.call rfl rfl rfl (enterS eg107 (args := [vo, .agg x213.enc]) rfl rfl rfl rfl) (c_rput _ d x213 _ (hS.mem (.tail _ (.head _))) (by first | omega | (simp; done) | (simp; omega))) ?_
        rintro e W220 ⟨v218, rfl, hB, hv', hn'⟩
        have hN219 : New w v218 := fun b hb => Nat.le_trans hS.bw.size (hn' b hb)
        replace hS := hS.newPin hB (pinSl v218 (putRow d x213)) hv' hn'
        refine ⟨_, rfl, ?_⟩
        refine WL.op (v := v218) rfl rfl rfl (Ex.assign rfl rfl) ?_
        refine WL.nil ?_
        refine inBlock_normal ?_
        refine then_normal ?_
        refine WP.region ?_
        refine WL.op (v := .int .i64 (k : Int)) rfl rfl rfl (Ex.move rfl rfl) ?_
        refine WL.op (v := .int .i64 ((k + 1 : Nat) : Int)) rfl rfl rfl (Ex.add rfl rfl rfl (wrap_succ (by omega))) ?_
        refine WL.op (v := .int .i64 ((k + 1 : Nat) : Int)) rfl rfl rfl (Ex.assign rfl rfl) ?_
        refine WL.nil ?_
        refine then_normal ?_
        exact ⟨_, ⟨k + 1, v218, _, _, fr_keep ⟨rfl, rfl, rfl, rfl, trivial⟩, rfl, by omega, (hS.repin 0 ⟨(.head _), (.tail _ (.tail _ (.tail _ (.head _)))), trivial⟩), (by rw [hd]; exact norm_put hx214 hc217), hN219⟩, by simp only [id]; omega⟩
      ·
        refine WP.skip ?_
        refine inBlock_normal ?_
        refine then_normal ?_
        refine WP.region ?_
        refine WL.op (v := .int .i64 (k : Int)) rfl rfl rfl (Ex.move rfl rfl) ?_
        refine WL.op (v := .int .i64 ((k + 1 : Nat) : Int)) rfl rfl rfl (Ex.add rfl rfl rfl (wrap_succ (by omega))) ?_
        refine WL.op (v := .int .i64 ((k + 1 : Nat) : Int)) rfl rfl rfl (Ex.assign rfl rfl) ?_
        refine WL.nil ?_
        refine then_normal ?_
        exact ⟨_, ⟨k + 1, vo, d, _, fr_keep ⟨rfl, rfl, rfl, rfl, trivial⟩, rfl, by omega, hS.drop 0 1, (by rw [norm_skip hx214 hc217]; exact hd), hn⟩, by simp only [id]; omega⟩
    ·
      have hc210' : ¬ ((k : Int) < (l.length : Int)) := by simpa using hc210
      refine WP.exit ?_
      refine then_exit (then_exit (inBlock_same (?_)))
      refine then_normal ?_
      refine WP.seq ?_
      refine WP.region ?_
      refine WL.op (v := vo) rfl rfl rfl (Ex.move rfl rfl) ?_
      refine WL.op (v := vo) rfl rfl rfl (Ex.assign rfl rfl) ?_
      refine WL.nil ?_
      refine then_normal ?_
      refine WP.ret ?_
      refine ?_
      refine rt1 (v := vo) rfl rfl ?_
      rw [show k = l.length by omega, List.take_length] at hd
      exact ⟨_, rfl, hS.bw, (by rw [← hd]; exact hS.mem (.head _)), .inl hn⟩
set_option maxRecDepth 100000 in
set_option maxHeartbeats 1000000 in
theorem c_rfind0 (v : Value) (l : List At) (q1 : Ky) (w : World) (hv : Sl w v l) :
    Calls Try.prog 76 #[v, .agg q1.enc] w fun e w' => e = .returned (.tuple #[.agg ((look (l.map kvp) q1).getD Vl.zero).enc, .bool (look (l.map kvp) q1).isSome]) ∧ Bw w w' := by
  have hS := St.begin (w := w) (pins := pinSl v l :: []) ⟨hv, trivial⟩
  refine enter (n := 26) Try.func76 rfl rfl (Nat.le_of_ble_eq_true rfl) (l := [(0, v), (1, .agg q1.enc)]) rfl ?_
  refine WP.seq ?_
  refine WP.region ?_
  refine WL.box (v := .agg q1.enc) hS rfl rfl rfl rfl rfl (fun b221 W222 hS => ?_)
  refine WL.alloc zv67 hS rfl rfl rfl rfl (fun b223 W224 hS => ?_)
  refine WL.op (v := .bool false) rfl rfl rfl (Ex.assign rfl rfl) ?_
  refine WL.nil ?_
  refine then_normal ?_
  refine WP.seq ?_
  refine WP.seq ?_
  refine WP.region ?_
  refine WL.op (v := .int .i64 0) rfl rfl rfl (Ex.assign rfl rfl) ?_
  refine WL.nil ?_
  refine then_normal ?_
  refine WP.block ?_
  refine WP.loop (fun (μ : Nat) a W => ∃ (k : Nat), ∃ (l0 : Fr), a = fr 26 [] ([(0, v), (3, .pointer (some ⟨b221, 0, none⟩)), (4, .pointer (some ⟨b223, 0, none⟩)), (6, .int .i64 (k : Int))] ++ l0) ∧ μ = l.length - k ∧ k ≤ l.length ∧ St w ((b223, .cells Vl.zero.enc 67) :: (b221, .cells q1.enc 61) :: []) (pinSl v l :: []) W ∧ (look ((l.take k).map kvp) q1 = none)) id _ ⟨0, _, fr_keep ⟨rfl, rfl, rfl, rfl, trivial⟩, rfl, by omega, hS, rfl⟩ ?_
  rintro μ a W225 ⟨k, l0, rfl, rfl, hk, hS, hn⟩
  refine WP.seq ?_
  refine WP.seq ?_
  refine WP.region ?_
  refine WL.op (v := .int .i64 (k : Int)) rfl rfl rfl (Ex.move rfl rfl) ?_
  refine WL.op (v := v) rfl rfl rfl (Ex.move rfl rfl) ?_
  have hl226 : l.length < 4611686018427387904 := (hS.mem (.head _) : Sl _ _ _).lt
  refine WL.op (v := .int .i64 (l.length : Int)) rfl rfl rfl (Ex.lenSl (l := l) ⟨_, under22⟩ rfl rfl (hS.mem (.head _))) ?_
  refine WL.op (v := .bool (decide ((k : Int) < (l.length : Int)))) rfl rfl rfl (Ex.lt rfl rfl rfl) ?_
  refine WL.nil ?_
  refine then_normal ?_
  refine WP.cond (b := decide ((k : Int) < (l.length : Int))) rfl (fun hc227 => ?_) (fun hc227 => ?_)
  ·
    have hc227' : (k : Int) < (l.length : Int) := by simpa using hc227
    refine WP.skip ?_
    refine then_normal ?_
    refine WP.seq ?_
    refine WP.block ?_
    refine WP.seq ?_
    obtain ⟨b228, po229, x230, hx231, hi232, hS⟩ := hS.elem (α := At) (k := k) (.head _) under22 tySz71 (by omega)
    refine WP.drawL 7 [(fun u_ _ => u_ = v), (fun u_ _ => u_ = .int .i64 (k : Int)), (fun u_ _ => u_ = .pointer (some ⟨b228, po229, none⟩)), (fun u_ _ => u_ = .pointer (some ⟨b228, po229, none⟩)), (fun u_ _ => u_ = .agg x230.k.enc), (fun u_ _ => u_ = .agg q1.enc), (fun u_ _ => u_ = .bool (decide (x230.k = q1)))] (fun vs => (19, vs 6) :: (18, vs 5) :: (17, vs 4) :: (16, vs 3) :: (15, vs 2) :: (14, vs 1) :: (13, vs 0) :: _) ⟨fun _ _ _ _ h => h, fun _ _ _ _ h => h, fun _ _ _ _ h => h, fun _ _ _ _ h => h, fun _ _ _ _ h => h, fun _ _ _ _ h => h, fun _ _ _ _ h => h, trivial⟩ (by kernel_rfl) (fun _ => rfl) ⟨?_, ?_, ?_, ?_, ?_, ?_, ?_, trivial⟩ ?_
    ·
      intro vs W hE hp
      exact dr_plain rfl (dr_ex (v := v) (Ex.move rfl rfl) (Bw.refl _) rfl)
    ·
      intro vs W hE hp
      exact dr_plain rfl (dr_ex (v := .int .i64 (k : Int)) (Ex.move rfl rfl) (Bw.refl _) rfl)
    ·
      intro vs W hE hp
      have p0 := hp 0 (by kernel_rfl)
      simp only [List.getD_cons_zero, List.getD_cons_succ] at p0
      have p1 := hp 1 (by kernel_rfl)
      simp only [List.getD_cons_zero, List.getD_cons_succ] at p1
      exact dr_plain rfl (dr_ex (v := .pointer (some ⟨b228, po229, none⟩)) (Ex.indexC hi232 rfl p0 p1) (Bw.refl _) rfl)
    ·
      intro vs W hE hp
      have p2 := hp 2 (by kernel_rfl)
      simp only [List.getD_cons_zero, List.getD_cons_succ] at p2
      exact dr_plain rfl (dr_ex (v := .pointer (some ⟨b228, po229, none⟩)) (Ex.fieldAddr' fieldAt71_0 rfl p2) (Bw.refl _) rfl)
    ·
      intro vs W hE hp
      have p3 := hp 3 (by kernel_rfl)
      simp only [List.getD_cons_zero, List.getD_cons_succ] at p3
      exact dr_plain rfl (dr_ex (v := .agg x230.k.enc) (Ex.loadA tyAgg61 rfl p3 (Reads.sub (cs := x230.enc.toList) ((hS.ext hE).get 0 rfl) 0 (ds := x230.k.enc.toList) rfl) rfl) (Bw.refl _) rfl)
    ·
      intro vs W hE hp
      exact dr_plain rfl (dr_ex (v := .agg q1.enc) (Ex.loadA tyAgg61 rfl rfl (Reads.of_block ((hS.ext hE).at 1 rfl) 0 q1.enc.toList rfl) rfl) (Bw.refl _) rfl)
    ·
      intro vs W hE hp
      have p4 := hp 4 (by kernel_rfl)
      simp only [List.getD_cons_zero, List.getD_cons_succ] at p4
      have p5 := hp 5 (by kernel_rfl)
      simp only [List.getD_cons_zero, List.getD_cons_succ] at p5
      exact dr_plain rfl (dr_ex (v := .bool (decide (x230.k = q1))) (Ex.binop rfl p4 p5 (eqlS61 _ _ _ _ _)) (Bw.refl _) rfl)
    intro vs W233 hE hv
    have hS0 := hS; replace hS := hS.ext hE
    have p0 : vs 0 = v := hv 0 (by decide)
    have p1 : vs 1 = .int .i64 (k : Int) := hv 1 (by decide)
    have p2 : vs 2 = .pointer (some ⟨b228, po229, none⟩) := hv 2 (by decide)
    have p3 : vs 3 = .pointer (some ⟨b228, po229, none⟩) := hv 3 (by decide)
    have p4 : vs 4 = .agg x230.k.enc := hv 4 (by decide)
    have p5 : vs 5 = .agg q1.enc := hv 5 (by decide)
    have p6 : vs 6 = .bool (decide (x230.k = q1)) := hv 6 (by decide)
    refine WL.keep (k := [(13, v), (14, .int .i64 (k : Int)), (15, .pointer (some ⟨b228, po229, none⟩)), (16, .pointer (some ⟨b228, po229, none⟩)), (17, .agg x230.k.enc), (18, .agg q1.enc), (19, .bool (decide (x230.k = q1)))]) ⟨p0, p1, p2, p3, p4, p5, p6, trivial⟩ ?_
    refine WL.nil ?_
    refine then_normal ?_
    refine WP.cond (b := decide (x230.k = q1)) rfl (fun hc234 => ?_) (fun hc234 => ?_)
    ·
      have hc234' : x230.k = q1 := by simpa using hc234
      refine WP.seq ?_
      refine WP.region ?_
      refine WL.op (v := v) rfl rfl rfl (Ex.move rfl rfl) ?_
      refine WL.op (v := .int .i64 (k : Int)) rfl rfl rfl (Ex.move rfl rfl) ?_
      refine WL.op (v := .pointer (some ⟨b228, po229, none⟩)) rfl rfl rfl (Ex.indexC hi232 rfl rfl rfl) ?_
      refine WL.op (v := .pointer (some ⟨b228, po229 + 12, none⟩)) rfl rfl rfl (Ex.fieldAddr' fieldAt71_1 rfl rfl) ?_
      refine WL.op (v := .agg x230.v.enc) rfl rfl rfl (Ex.loadA tyAgg67 rfl rfl (Reads.sub (cs := x230.enc.toList) (hS.get 0 rfl) 12 (ds := x230.v.enc.toList) rfl) rfl) ?_
      refine WL.store tySz67 hS 0 rfl rfl rfl rfl rfl rfl rfl rfl rfl (C' := x230.v.enc) rfl ((b223, .cells x230.v.enc 67) :: (b221, .cells q1.enc 61) :: []) rfl (fun W235 hS => ?_)
      refine WL.op (v := .bool true) rfl rfl rfl (Ex.assign rfl rfl) ?_
      refine WL.nil ?_
      refine then_normal ?_
      refine WP.ret ?_
      refine inBlock_ret (then_ret (then_ret (inBlock_ret (then_ret (?_)))))
      refine rtC2 (v' := .bool true) rfl tyAgg67 rfl (Reads.of_block (hS.at 0 rfl) 0 x230.v.enc.toList rfl) rfl rfl ?_
      exact ⟨by rw [look_hit hx231 hn hc234']; rfl, hS.bw⟩
    ·
      have hc234' : ¬ (x230.k = q1) := by simpa using hc234
      refine WP.skip ?_
      refine inBlock_normal ?_
      refine then_normal ?_
      refine WP.region ?_
      refine WL.op (v := .int .i64 (k : Int)) rfl rfl rfl (Ex.move rfl rfl) ?_
      refine WL.op (v := .int .i64 ((k + 1 : Nat) : Int)) rfl rfl rfl (Ex.add rfl rfl rfl (wrap_succ (by omega))) ?_
      refine WL.op (v := .int .i64 ((k + 1 : Nat) : Int)) rfl rfl rfl (Ex.assign rfl rfl) ?_
      refine WL.nil ?_
      refine then_normal ?_
      exact ⟨_, ⟨k + 1, _, fr_keep ⟨rfl, rfl, rfl, rfl, trivial⟩, rfl, by omega, hS.drop 0 1, look_step hx231 hn hc234'⟩, by simp only [id]; omega⟩
  ·
    have hc227' : ¬ ((k : Int) < (l.length : Int)) := by simpa using hc227
    refine WP.exit ?_
    refine then_exit (then_exit (inBlock_same (?_)))
    refine then_normal ?_
    refine WP.seq ?_
    refine WP.region ?_
    refine WL.op (v := .agg (Vl.mk 0 Nm.zero).enc) rfl rfl rfl (Ex.build (ps := []) rfl rfl (by kernel_rfl)) ?_
    refine WL.store tySz67 hS 0 rfl rfl rfl rfl rfl rfl rfl rfl rfl (C' := (Vl.mk 0 Nm.zero).enc) rfl ((b223, .cells (Vl.mk 0 Nm.zero).enc 67) :: (b221, .cells q1.enc 61) :: []) rfl (fun W236 hS => ?_)
    refine WL.op (v := .bool false) rfl rfl rfl (Ex.assign rfl rfl) ?_
    refine WL.nil ?_
    refine then_normal ?_
    refine WP.ret ?_
    refine ?_
    refine rtC2 (v' := .bool false) rfl tyAgg67 rfl (Reads.of_block (hS.at 0 rfl) 0 (Vl.mk 0 Nm.zero).enc.toList rfl) rfl rfl ?_
    rw [show k = l.length by omega, List.take_length] at hn
    exact ⟨by rw [hn]; rfl, hS.bw⟩
set_option maxRecDepth 100000 in
set_option maxHeartbeats 1000000 in
theorem c_rfind (v : Value) (l : List At) (q1 : Ky) (w : World) (hv : Sl w v l) (hl : l.length ≤ 1048576) :
    Calls Try.prog 57 #[v, .agg q1.enc] w fun e w' => e = .returned (.tuple #[.agg ((look ((normAt l).map kvp) q1).getD Vl.zero).enc, .bool (look ((normAt l).map kvp) q1).isSome]) ∧ Bw w w' := by
  have hS := St.begin (w := w) (pins := pinSl v l :: []) ⟨hv, trivial⟩
  refine enter (n := 12) Try.func57 rfl rfl (Nat.le_of_ble_eq_true rfl) (l := [(0, v), (1, .agg q1.enc)]) rfl ?_
  refine WP.seq ?_
  refine WP.region ?_
  refine WL.box (v := .agg q1.enc) hS rfl rfl rfl rfl rfl (fun b237 W238 hS => ?_)
  refine WL.alloc zv67 hS rfl rfl rfl rfl (fun b239 W240 hS => ?_)
  refine WL.op (v := .bool false) rfl rfl rfl (Ex.assign rfl rfl) ?_
  refine WL.nil ?_
  refine then_normal ?_
  refine WP.seq ?_
  refine WP.drawL 6 [(fun u_ _ => u_ = v), (fun u_ W_ => Sl W_ u_ (normAt l) ∧ (New W240 u_ ∨ u_ = v)), (fun u_ _ => u_ = .agg q1.enc), (fun u_ _ => u_ = .tuple #[.agg ((look ((normAt l).map kvp) q1).getD Vl.zero).enc, .bool ((look ((normAt l).map kvp) q1).isSome)]), (fun u_ _ => u_ = .agg ((look ((normAt l).map kvp) q1).getD Vl.zero).enc), (fun u_ _ => u_ = .bool ((look ((normAt l).map kvp) q1).isSome))] (fun vs => (11, vs 5) :: (10, vs 4) :: (9, vs 3) :: (8, vs 2) :: (7, vs 1) :: (6, vs 0) :: _) ⟨fun _ _ _ _ h => h, mono_slo, fun _ _ _ _ h => h, fun _ _ _ _ h => h, fun _ _ _ _ h => h, fun _ _ _ _ h => h, trivial⟩ (by kernel_rfl) (fun _ => rfl) ⟨?_, ?_, ?_, ?_, ?_, ?_, trivial⟩ ?_
  ·
    intro vs W hE hp
    exact dr_plain rfl (dr_ex (v := v) (Ex.move rfl rfl) (Bw.refl _) rfl)
  ·
    intro vs W hE hp
    have p0 := hp 0 (by kernel_rfl)
    simp only [List.getD_cons_zero, List.getD_cons_succ] at p0
    exact dr_plain rfl (dr_callE (enterS eg66 (args := [v]) rfl rfl rfl (l1 p0)) ((c_rnorm _ l _ ((hS.ext hE).mem (.head _)) (by first | omega | (simp; done) | (simp; omega))).mono fun e W' ⟨v, h1, h2, h3, h4⟩ => ⟨v, h1, h2, h3, h4.imp (fun h => h.of hE) id⟩))
  ·
    intro vs W hE hp
    exact dr_plain rfl (dr_ex (v := .agg q1.enc) (Ex.loadA tyAgg61 rfl rfl (Reads.of_block ((hS.ext hE).at 1 rfl) 0 q1.enc.toList rfl) rfl) (Bw.refl _) rfl)
  ·
    intro vs W hE hp
    have p1 := hp 1 (by kernel_rfl)
    obtain ⟨hv1, hn1⟩ := p1; have p1 : vs 1 = vs 1 := rfl
    have p2 := hp 2 (by kernel_rfl)
    simp only [List.getD_cons_zero, List.getD_cons_succ] at p2
    exact dr_plain rfl (dr_callS (v := .tuple #[.agg ((look ((normAt l).map kvp) q1).getD Vl.zero).enc, .bool ((look ((normAt l).map kvp) q1).isSome)]) (enterS eg76 (args := [(vs 1), .agg q1.enc]) rfl rfl rfl (l2 p1 p2)) (c_rfind0 _ (normAt l) q1 _ hv1) (fun _ => rfl))
  ·
    intro vs W hE hp
    have p3 := hp 3 (by kernel_rfl)
    simp only [List.getD_cons_zero, List.getD_cons_succ] at p3
    exact dr_plain rfl (dr_ex (v := .agg ((look ((normAt l).map kvp) q1).getD Vl.zero).enc) (Ex.extract rfl p3 rfl) (Bw.refl _) rfl)
  ·
    intro vs W hE hp
    have p3 := hp 3 (by kernel_rfl)
    simp only [List.getD_cons_zero, List.getD_cons_succ] at p3
    exact dr_plain rfl (dr_ex (v := .bool ((look ((normAt l).map kvp) q1).isSome)) (Ex.extract rfl p3 rfl) (Bw.refl _) rfl)
  intro vs W241 hE hv
  have hS0 := hS; replace hS := hS.ext hE
  have p0 : vs 0 = v := hv 0 (by decide)
  have p1 := hv 1 (by decide)
  obtain ⟨hv1, hn1⟩ := p1; have p1 : vs 1 = vs 1 := rfl
  replace hS := hS0.pinOr2 hS (.head _) hv1 hn1
  replace p1 : vs 1 = vs 1 := rfl
  have p2 : vs 2 = .agg q1.enc := hv 2 (by decide)
  have p3 : vs 3 = .tuple #[.agg ((look ((normAt l).map kvp) q1).getD Vl.zero).enc, .bool ((look ((normAt l).map kvp) q1).isSome)] := hv 3 (by decide)
  have p4 : vs 4 = .agg ((look ((normAt l).map kvp) q1).getD Vl.zero).enc := hv 4 (by decide)
  have p5 : vs 5 = .bool ((look ((normAt l).map kvp) q1).isSome) := hv 5 (by decide)
  refine WL.keep (k := [(6, v), (7, (vs 1)), (8, .agg q1.enc), (9, .tuple #[.agg ((look ((normAt l).map kvp) q1).getD Vl.zero).enc, .bool ((look ((normAt l).map kvp) q1).isSome)]), (10, .agg ((look ((normAt l).map kvp) q1).getD Vl.zero).enc), (11, .bool ((look ((normAt l).map kvp) q1).isSome))]) ⟨p0, p1, p2, p3, p4, p5, trivial⟩ ?_
  refine WL.store tySz67 hS 0 rfl rfl rfl rfl rfl rfl rfl rfl rfl (C' := ((look ((normAt l).map kvp) q1).getD Vl.zero).enc) rfl ((b239, .cells ((look ((normAt l).map kvp) q1).getD Vl.zero).enc 67) :: (b237, .cells q1.enc 61) :: []) rfl (fun W242 hS => ?_)
  refine WL.op (v := .bool ((look ((normAt l).map kvp) q1).isSome)) rfl rfl rfl (Ex.assign rfl rfl) ?_
  refine WL.nil ?_
  refine then_normal ?_
  refine WP.ret ?_
  refine ?_
  refine rtC2 (v' := .bool ((look ((normAt l).map kvp) q1).isSome)) rfl tyAgg67 rfl (Reads.of_block (hS.at 0 rfl) 0 ((look ((normAt l).map kvp) q1).getD Vl.zero).enc.toList rfl) rfl rfl ?_
  exact ⟨rfl, hS.bw⟩
set_option maxRecDepth 100000 in
set_option maxHeartbeats 1000000 in
theorem c_rjoin (v v2 : Value) (la lb : List At) (w : World) (ha : Sl w v la) (hb : Sl w v2 lb) (hl : la.length ≤ 1048576) (hl2 : lb.length ≤ 1048576) :
    Calls Try.prog 17 #[v, v2] w fun e w' => ∃ v', e = .returned v' ∧ Bw w w' ∧ Sl w' v' (normAt (la ++ lb)) ∧ New w v' := by
  have hS := St.begin (w := w) (pins := pinSl v la :: pinSl v2 lb :: []) ⟨ha, hb, trivial⟩
  refine enter (n := 107) Try.func17 rfl rfl (Nat.le_of_ble_eq_true rfl) (l := [(0, v), (1, v2)]) rfl ?_
  refine WP.seq ?_
  refine WP.region ?_
  refine WL.op (v := .slice none 0 0) rfl rfl rfl (Ex.assign rfl rfl) ?_
  refine WL.nil ?_
  refine then_normal ?_
  refine WP.seq ?_
  refine WP.region ?_
  refine WL.op (v := v) rfl rfl rfl (Ex.move rfl rfl) ?_
  refine WL.call rfl rfl rfl (enterS eg66 (args := [v]) rfl rfl rfl rfl) (c_rnorm _ la _ (hS.mem (.head _)) (by first | omega | (simp; done) | (simp; omega))) ?_
  rintro e W244 ⟨v243, rfl, hB, hv', hn'⟩
  replace hS := hS.pinOr (l' := normAt la) hB (.head _) hv' hn'
  refine ⟨_, rfl, ?_⟩
  have hq245 := normAt_length la
  refine WL.op (v := v2) rfl rfl rfl (Ex.move rfl rfl) ?_
  refine WL.call rfl rfl rfl (enterS eg66 (args := [v2]) rfl rfl rfl rfl) (c_rnorm _ lb _ (hS.mem (.tail _ (.tail _ (.head _)))) (by first | omega | (simp; done) | (simp; omega))) ?_
  rintro e W247 ⟨v246, rfl, hB, hv', hn'⟩
  replace hS := hS.pinOr (l' := normAt lb) hB (.tail _ (.tail _ (.head _))) hv' hn'
  refine ⟨_, rfl, ?_⟩
  have hq248 := normAt_length lb
  refine WL.op (v := v243) rfl rfl rfl (Ex.assign rfl rfl) ?_
  refine WL.op (v := v246) rfl rfl rfl (Ex.assign rfl rfl) ?_
  refine WL.nil ?_
  refine then_normal ?_
  refine WP.seq ?_
  refine WP.region ?_
  refine WL.op (v := .slice none 0 0) rfl rfl rfl (Ex.assign rfl rfl) ?_
  refine WL.nil ?_
  refine then_normal ?_
  refine WP.seq ?_
  refine WP.region ?_
  refine WL.op (v := .int .i64 0) rfl rfl rfl (Ex.assign rfl rfl) ?_
  refine WL.op (v := .int .i64 0) rfl rfl rfl (Ex.assign rfl rfl) ?_
  refine WL.nil ?_
  refine then_normal ?_
  refine WP.seq ?_
  refine WP.block ?_
  refine WP.loop (fun (μ : Nat) a W => ∃ (i : Nat), ∃ (j : Nat), ∃ (vo : Value), ∃ (eo : Option (Nat × Obj)), ∃ (d : List At), ∃ (l0 : Fr), a = fr 107 [] ([(0, v243), (1, v246), (4, .slice none 0 0), (5, vo), (6, .int .i64 (i : Int)), (7, .int .i64 (j : Int))] ++ l0) ∧ μ = (normAt la).length - i + ((normAt lb).length - j) ∧ St w (eo.toList) (pinSl v246 (normAt lb) :: pinSl v243 (normAt la) :: pinSl v la :: pinSl v2 lb :: []) W ∧ (i ≤ (normAt la).length) ∧ (j ≤ (normAt lb).length) ∧ (OutG vo eo 71 d) ∧ (mergeAt (normAt la) (normAt lb) = d ++ mergeAt ((normAt la).drop i) ((normAt lb).drop j)) ∧ (d.length ≤ i + j)) id _ ⟨0, 0, .slice none 0 0, none, [], _, fr_keep ⟨rfl, rfl, rfl, rfl, rfl, rfl, trivial⟩, rfl, hS, (by omega), (by omega), OutG.nil, rfl, (by simp)⟩ ?_
  rintro μ a W249 ⟨i, j, vo, eo, d, l0, rfl, rfl, hS, hi, hj, hO, hd, hdl⟩
  refine WP.seq ?_
  refine WP.seq ?_
  refine WP.region ?_
  refine WL.op (v := .int .i64 (i : Int)) rfl rfl rfl (Ex.move rfl rfl) ?_
  refine WL.op (v := v243) rfl rfl rfl (Ex.move rfl rfl) ?_
  have hl250 : (normAt la).length < 4611686018427387904 := (hS.mem (.tail _ (.head _)) : Sl _ _ _).lt
  refine WL.op (v := .int .i64 ((normAt la).length : Int)) rfl rfl rfl (Ex.lenSl (l := normAt la) ⟨_, under22⟩ rfl rfl (hS.mem (.tail _ (.head _)))) ?_
  refine WL.op (v := .bool (decide ((i : Int) < ((normAt la).length : Int)))) rfl rfl rfl (Ex.lt rfl rfl rfl) ?_
  refine WL.op (v := .bool (decide ((i : Int) < ((normAt la).length : Int)))) rfl rfl rfl (Ex.move rfl rfl) ?_
  rcases Bool.eq_false_or_eq_true (decide ((i : Int) < ((normAt la).length : Int))) with hg251 | hg251
  ·
    have hg251' : (i : Int) < ((normAt la).length : Int) := by simpa using hg251
    refine WL.off (b' := true) rfl rfl rfl rfl rfl rfl (congrArg Value.bool hg251) rfl ?_
    refine WL.off (b' := true) rfl rfl rfl rfl rfl rfl (congrArg Value.bool hg251) rfl ?_
    refine WL.off (b' := true) rfl rfl rfl rfl rfl rfl (congrArg Value.bool hg251) rfl ?_
    refine WL.off (b' := true) rfl rfl rfl rfl rfl rfl (congrArg Value.bool hg251) rfl ?_
    refine WL.op (v := .bool true) rfl rfl rfl (Ex.pickT rfl (congrArg Value.bool hg251) rfl) ?_
    refine WL.nil ?_
    refine then_normal ?_
    refine WP.condT rfl ?_
    refine WP.skip ?_
    refine then_normal ?_
    refine WP.block ?_
    refine WP.block ?_
    refine WP.seq ?_
    rcases Bool.eq_false_or_eq_true (decide ((j : Int) = ((normAt lb).length : Int))) with hg253 | hg253
    ·
      have hg253' : (j : Int) = ((normAt lb).length : Int) := by simpa using hg253
      refine WP.drawL 24 [(fun u_ _ => u_ = .int .i64 (j : Int)), (fun u_ _ => u_ = v246), (fun u_ _ => u_ = .int .i64 ((normAt lb).length : Int)), (fun u_ _ => u_ = .bool (decide ((j : Int) = ((normAt lb).length : Int)))), (fun u_ _ => u_ = .bool (decide ((j : Int) = ((normAt lb).length : Int)))), (fun u_ _ => u_ = undef), (fun u_ _ => u_ = undef), (fun u_ _ => u_ = undef), (fun u_ _ => u_ = undef), (fun u_ _ => u_ = undef), (fun u_ _ => u_ = undef), (fun u_ _ => u_ = undef), (fun u_ _ => u_ = undef), (fun u_ _ => u_ = undef), (fun u_ _ => u_ = undef), (fun u_ _ => u_ = undef), (fun u_ _ => u_ = undef), (fun u_ _ => u_ = undef), (fun u_ _ => u_ = undef), (fun u_ _ => u_ = undef), (fun u_ _ => u_ = undef), (fun u_ _ => u_ = undef), (fun u_ _ => u_ = .bool true), (fun u_ _ => u_ = .bool true)] (fun vs => (46, vs 23) :: (69, vs 22) :: (68, vs 21) :: (67, vs 20) :: (66, vs 19) :: (65, vs 18) :: (64, vs 17) :: (63, vs 16) :: (62, vs 15) :: (61, vs 14) :: (60, vs 13) :: (59, vs 12) :: (58, vs 11) :: (57, vs 10) :: (56, vs 9) :: (55, vs 8) :: (54, vs 7) :: (53, vs 6) :: (52, vs 5) :: (51, vs 4) :: (50, vs 3) :: (49, vs 2) :: (48, vs 1) :: (47, vs 0) :: _) ⟨fun _ _ _ _ h => h, fun _ _ _ _ h => h, fun _ _ _ _ h => h, fun _ _ _ _ h => h, fun _ _ _ _ h => h, fun _ _ _ _ h => h, fun _ _ _ _ h => h, fun _ _ _ _ h => h, fun _ _ _ _ h => h, fun _ _ _ _ h => h, fun _ _ _ _ h => h, fun _ _ _ _ h => h, fun _ _ _ _ h => h, fun _ _ _ _ h => h, fun _ _ _ _ h => h, fun _ _ _ _ h => h, fun _ _ _ _ h => h, fun _ _ _ _ h => h, fun _ _ _ _ h => h, fun _ _ _ _ h => h, fun _ _ _ _ h => h, fun _ _ _ _ h => h, fun _ _ _ _ h => h, fun _ _ _ _ h => h, trivial⟩ (by kernel_rfl) (fun _ => rfl) ⟨?_, ?_, ?_, ?_, ?_, ?_, ?_, ?_, ?_, ?_, ?_, ?_, ?_, ?_, ?_, ?_, ?_, ?_, ?_, ?_, ?_, ?_, ?_, ?_, trivial⟩ ?_
      ·
        intro vs W hE hp
        exact dr_plain rfl (dr_ex (v := .int .i64 (j : Int)) (Ex.move rfl rfl) (Bw.refl _) rfl)
      ·
        intro vs W hE hp
        exact dr_plain rfl (dr_ex (v := v246) (Ex.move rfl rfl) (Bw.refl _) rfl)
      ·
        intro vs W hE hp
        have p1 := hp 1 (by kernel_rfl)
        simp only [List.getD_cons_zero, List.getD_cons_succ] at p1
        exact dr_plain rfl (dr_ex (v := .int .i64 ((normAt lb).length : Int)) (Ex.lenSl (l := normAt lb) ⟨_, under22⟩ rfl p1 ((hS.ext hE).mem (.head _))) (Bw.refl _) rfl)
      ·
        intro vs W hE hp
        have p0 := hp 0 (by kernel_rfl)
        simp only [List.getD_cons_zero, List.getD_cons_succ] at p0
        have p2 := hp 2 (by kernel_rfl)
        simp only [List.getD_cons_zero, List.getD_cons_succ] at p2
        exact dr_plain rfl (dr_ex (v := .bool (decide ((j : Int) = ((normAt lb).length : Int)))) (Ex.eq rfl p0 p2) (Bw.refl _) rfl)
      ·
        intro vs W hE hp
        have p3 := hp 3 (by kernel_rfl)
        simp only [List.getD_cons_zero, List.getD_cons_succ] at p3
        exact dr_plain rfl (dr_ex (v := .bool (decide ((j : Int) = ((normAt lb).length : Int)))) (Ex.move rfl p3) (Bw.refl _) rfl)
      ·
        intro vs W hE hp
        have p4 := hp 4 (by kernel_rfl)
        simp only [List.getD_cons_zero, List.getD_cons_succ] at p4
        exact dr_off rfl rfl rfl p4 (congrArg Value.bool hg253) rfl rfl
      ·
        intro vs W hE hp
        have p4 := hp 4 (by kernel_rfl)
        simp only [List.getD_cons_zero, List.getD_cons_succ] at p4
        exact dr_off rfl rfl rfl p4 (congrArg Value.bool hg253) rfl rfl
      ·
        intro vs W hE hp
        have p4 := hp 4 (by kernel_rfl)
        simp only [List.getD_cons_zero, List.getD_cons_succ] at p4
        have p6 := hp 6 (by kernel_rfl)
        simp only [List.getD_cons_zero, List.getD_cons_succ] at p6
        exact dr_off rfl rfl rfl p4 (congrArg Value.bool hg253) rfl rfl
      ·
        intro vs W hE hp
        have p4 := hp 4 (by kernel_rfl)
        simp only [List.getD_cons_zero, List.getD_cons_succ] at p4
        have p5 := hp 5 (by kernel_rfl)
        simp only [List.getD_cons_zero, List.getD_cons_succ] at p5
        have p7 := hp 7 (by kernel_rfl)
        simp only [List.getD_cons_zero, List.getD_cons_succ] at p7
        exact dr_off rfl rfl rfl p4 (congrArg Value.bool hg253) rfl rfl
      ·
        intro vs W hE hp
        have p4 := hp 4 (by kernel_rfl)
        simp only [List.getD_cons_zero, List.getD_cons_succ] at p4
        have p8 := hp 8 (by kernel_rfl)
        simp only [List.getD_cons_zero, List.getD_cons_succ] at p8
        exact dr_off rfl rfl rfl p4 (congrArg Value.bool hg253) rfl rfl
      ·
        intro vs W hE hp
        have p9 := hp 9 (by kernel_rfl)
        simp only [List.getD_cons_zero, List.getD_cons_succ] at p9
        exact dr_offU rfl rfl rfl p9 rfl
      ·
        intro vs W hE hp
        have p9 := hp 9 (by kernel_rfl)
        simp only [List.getD_cons_zero, List.getD_cons_succ] at p9
        exact dr_offU rfl rfl rfl p9 rfl
      ·
        intro vs W hE hp
        have p9 := hp 9 (by kernel_rfl)
        simp only [List.getD_cons_zero, List.getD_cons_succ] at p9
        have p10 := hp 10 (by kernel_rfl)
        simp only [List.getD_cons_zero, List.getD_cons_succ] at p10
        have p11 := hp 11 (by kernel_rfl)
        simp only [List.getD_cons_zero, List.getD_cons_succ] at p11
        exact dr_offU rfl rfl rfl p9 rfl
      ·
        intro vs W hE hp
        have p9 := hp 9 (by kernel_rfl)
        simp only [List.getD_cons_zero, List.getD_cons_succ] at p9
        have p12 := hp 12 (by kernel_rfl)
        simp only [List.getD_cons_zero, List.getD_cons_succ] at p12
        exact dr_offU rfl rfl rfl p9 rfl
      ·
        intro vs W hE hp
        have p9 := hp 9 (by kernel_rfl)
        simp only [List.getD_cons_zero, List.getD_cons_succ] at p9
        have p13 := hp 13 (by kernel_rfl)
        simp only [List.getD_cons_zero, List.getD_cons_succ] at p13
        exact dr_offU rfl rfl rfl p9 rfl
      ·
        intro vs W hE hp
        have p9 := hp 9 (by kernel_rfl)
        simp only [List.getD_cons_zero, List.getD_cons_succ] at p9
        exact dr_offU rfl rfl rfl p9 rfl
      ·
        intro vs W hE hp
        have p9 := hp 9 (by kernel_rfl)
        simp only [List.getD_cons_zero, List.getD_cons_succ] at p9
        exact dr_offU rfl rfl rfl p9 rfl
      ·
        intro vs W hE hp
        have p9 := hp 9 (by kernel_rfl)
        simp only [List.getD_cons_zero, List.getD_cons_succ] at p9
        have p15 := hp 15 (by kernel_rfl)
        simp only [List.getD_cons_zero, List.getD_cons_succ] at p15
        have p16 := hp 16 (by kernel_rfl)
        simp only [List.getD_cons_zero, List.getD_cons_succ] at p16
        exact dr_offU rfl rfl rfl p9 rfl
      ·
        intro vs W hE hp
        have p9 := hp 9 (by kernel_rfl)
        simp only [List.getD_cons_zero, List.getD_cons_succ] at p9
        have p17 := hp 17 (by kernel_rfl)
        simp only [List.getD_cons_zero, List.getD_cons_succ] at p17
        exact dr_offU rfl rfl rfl p9 rfl
      ·
        intro vs W hE hp
        have p9 := hp 9 (by kernel_rfl)
        simp only [List.getD_cons_zero, List.getD_cons_succ] at p9
        have p18 := hp 18 (by kernel_rfl)
        simp only [List.getD_cons_zero, List.getD_cons_succ] at p18
        exact dr_offU rfl rfl rfl p9 rfl
      ·
        intro vs W hE hp
        have p9 := hp 9 (by kernel_rfl)
        simp only [List.getD_cons_zero, List.getD_cons_succ] at p9
        have p14 := hp 14 (by kernel_rfl)
        simp only [List.getD_cons_zero, List.getD_cons_succ] at p14
        have p19 := hp 19 (by kernel_rfl)
        simp only [List.getD_cons_zero, List.getD_cons_succ] at p19
        exact dr_offU rfl rfl rfl p9 rfl
      ·
        intro vs W hE hp
        have p4 := hp 4 (by kernel_rfl)
        simp only [List.getD_cons_zero, List.getD_cons_succ] at p4
        have p9 := hp 9 (by kernel_rfl)
        simp only [List.getD_cons_zero, List.getD_cons_succ] at p9
        have p20 := hp 20 (by kernel_rfl)
        simp only [List.getD_cons_zero, List.getD_cons_succ] at p20
        exact dr_off rfl rfl rfl p4 (congrArg Value.bool hg253) rfl rfl
      ·
        intro vs W hE hp
        have p4 := hp 4 (by kernel_rfl)
        simp only [List.getD_cons_zero, List.getD_cons_succ] at p4
        have p21 := hp 21 (by kernel_rfl)
        simp only [List.getD_cons_zero, List.getD_cons_succ] at p21
        exact dr_plain rfl (dr_ex (v := .bool true) (Ex.pickT rfl (p4.trans (congrArg Value.bool hg253)) rfl) (Bw.refl _) rfl)
      ·
        intro vs W hE hp
        have p22 := hp 22 (by kernel_rfl)
        simp only [List.getD_cons_zero, List.getD_cons_succ] at p22
        exact dr_plain rfl (dr_ex (v := .bool true) (Ex.assign rfl p22) (Bw.refl _) rfl)
      intro vs W255 hE hv
      have hS0 := hS; replace hS := hS.ext hE
      have p0 : vs 0 = .int .i64 (j : Int) := hv 0 (by decide)
      have p1 : vs 1 = v246 := hv 1 (by decide)
      have p2 : vs 2 = .int .i64 ((normAt lb).length : Int) := hv 2 (by decide)
      have p3 : vs 3 = .bool (decide ((j : Int) = ((normAt lb).length : Int))) := hv 3 (by decide)
      have p4 : vs 4 = .bool (decide ((j : Int) = ((normAt lb).length : Int))) := hv 4 (by decide)
      have p22 : vs 22 = .bool true := hv 22 (by decide)
      have p23 : vs 23 = .bool true := hv 23 (by decide)
      refine WL.keep (k := [(47, .int .i64 (j : Int)), (48, v246), (49, .int .i64 ((normAt lb).length : Int)), (50, .bool (decide ((j : Int) = ((normAt lb).length : Int)))), (51, .bool (decide ((j : Int) = ((normAt lb).length : Int)))), (69, .bool true), (46, .bool true)]) ⟨p0, p1, p2, p3, p4, p22, p23, trivial⟩ ?_
      refine WL.nil ?_
      refine then_normal ?_
      refine WP.condT rfl ?_
      refine WP.seq ?_
      refine WP.region ?_
      refine WL.op (v := vo) rfl rfl rfl (Ex.move rfl rfl) ?_
      refine WL.op (v := v243) rfl rfl rfl (Ex.move rfl rfl) ?_
      refine WL.op (v := .int .i64 (i : Int)) rfl rfl rfl (Ex.move rfl rfl) ?_
      obtain ⟨b256, po257, x258, hx259, hi260, hS⟩ := hS.elem (α := At) (k := i) (.tail _ (.head _)) under22 tySz71 (by omega)
      refine WL.op (v := .pointer (some ⟨b256, po257, none⟩)) rfl rfl rfl (Ex.indexC hi260 rfl rfl rfl) ?_
      refine WL.op (v := .agg x258.enc) rfl rfl rfl (Ex.loadA tyAgg71 rfl rfl (Reads.sub (cs := x258.enc.toList) (hS.get 0 rfl) 0 (ds := x258.enc.toList) rfl) rfl) ?_
      refine WL.buildSlice (ps := [(0, .agg x258.enc)]) (C := x258.enc) (E := 71) rfl (fun _ => by kernel_rfl) hS rfl rfl rfl rfl (fun b261 W262 hS => ?_)
      have hNb261 : w.heap.size ≤ b261 := hS.ge 0 rfl
      replace hS := hS.slice (α := At) (xs := [x258]) (cap := 1) rfl (by simp)
      refine WL.append (α := At) (a := x258) under22 infT71 rfl (by decide) (by decide) [] hO hS (hS.mem (.head _)) (by omega) rfl rfl rfl rfl rfl rfl (fun vo263 eo264 W265 hO266 hS => ?_)
      refine WL.op (v := vo263) rfl rfl rfl (Ex.assign rfl rfl) ?_
      refine WL.nil ?_
      refine then_normal ?_
      refine WP.region ?_
      refine WL.op (v := .int .i64 (i : Int)) rfl rfl rfl (Ex.move rfl rfl) ?_
      refine WL.op (v := .int .i64 ((i + 1 : Nat) : Int)) rfl rfl rfl (Ex.add rfl rfl rfl (wrap_succ (by omega))) ?_
      refine WL.op (v := .int .i64 ((i + 1 : Nat) : Int)) rfl rfl rfl (Ex.assign rfl rfl) ?_
      refine WL.nil ?_
      refine inBlock_normal ?_
      refine inBlock_normal ?_
      refine then_normal ?_
      exact ⟨_, ⟨i + 1, j, vo263, eo264, d ++ [x258], _, fr_keep ⟨rfl, rfl, rfl, rfl, rfl, rfl, trivial⟩, rfl, hS.drop 0 2, (by omega), (by omega), hO266, (by rw [hd, List.append_assoc]; congr 1; exact merge_l0 hx259 (by omega)), (by simp only [List.length_append, List.length_cons, List.length_nil]; omega)⟩, by simp only [id]; omega⟩
    ·
      have hg253' : ¬ ((j : Int) = ((normAt lb).length : Int)) := by simpa using hg253
      obtain ⟨b268, po269, x270, hx271, hi272, hS⟩ := hS.elem (α := At) (k := i) (.tail _ (.head _)) under22 tySz71 (by omega)
      obtain ⟨b274, po275, x276, hx277, hi278, hS⟩ := hS.elem (α := At) (k := j) (.tail _ (.head _)) under22 tySz71 (by omega)
      refine WP.drawL 24 [(fun u_ _ => u_ = .int .i64 (j : Int)), (fun u_ _ => u_ = v246), (fun u_ _ => u_ = .int .i64 ((normAt lb).length : Int)), (fun u_ _ => u_ = .bool (decide ((j : Int) = ((normAt lb).length : Int)))), (fun u_ _ => u_ = .bool (decide ((j : Int) = ((normAt lb).length : Int)))), (fun u_ _ => u_ = .int .i64 (i : Int)), (fun u_ _ => u_ = v243), (fun u_ _ => u_ = .int .i64 ((normAt la).length : Int)), (fun u_ _ => u_ = .bool (decide ((i : Int) < ((normAt la).length : Int)))), (fun u_ _ => u_ = .bool (decide ((i : Int) < ((normAt la).length : Int)))), (fun u_ _ => u_ = v243), (fun u_ _ => u_ = .int .i64 (i : Int)), (fun u_ _ => u_ = .pointer (some ⟨b268, po269, none⟩)), (fun u_ _ => u_ = .pointer (some ⟨b268, po269, none⟩)), (fun u_ _ => u_ = .agg x270.k.enc), (fun u_ _ => u_ = v246), (fun u_ _ => u_ = .int .i64 (j : Int)), (fun u_ _ => u_ = .pointer (some ⟨b274, po275, none⟩)), (fun u_ _ => u_ = .pointer (some ⟨b274, po275, none⟩)), (fun u_ _ => u_ = .agg x276.k.enc), (fun u_ _ => u_ = .bool (x270.k.lt x276.k)), (fun u_ _ => u_ = .bool (x270.k.lt x276.k)), (fun u_ _ => u_ = .bool (x270.k.lt x276.k)), (fun u_ _ => u_ = .bool (x270.k.lt x276.k))] (fun vs => (46, vs 23) :: (69, vs 22) :: (68, vs 21) :: (67, vs 20) :: (66, vs 19) :: (65, vs 18) :: (64, vs 17) :: (63, vs 16) :: (62, vs 15) :: (61, vs 14) :: (60, vs 13) :: (59, vs 12) :: (58, vs 11) :: (57, vs 10) :: (56, vs 9) :: (55, vs 8) :: (54, vs 7) :: (53, vs 6) :: (52, vs 5) :: (51, vs 4) :: (50, vs 3) :: (49, vs 2) :: (48, vs 1) :: (47, vs 0) :: _) ⟨fun _ _ _ _ h => h, fun _ _ _ _ h => h, fun _ _ _ _ h => h, fun _ _ _ _ h => h, fun _ _ _ _ h => h, fun _ _ _ _ h => h, fun _ _ _ _ h => h, fun _ _ _ _ h => h, fun _ _ _ _ h => h, fun _ _ _ _ h => h, fun _ _ _ _ h => h, fun _ _ _ _ h => h, fun _ _ _ _ h => h, fun _ _ _ _ h => h, fun _ _ _ _ h => h, fun _ _ _ _ h => h, fun _ _ _ _ h => h, fun _ _ _ _ h => h, fun _ _ _ _ h => h, fun _ _ _ _ h => h, fun _ _ _ _ h => h, fun _ _ _ _ h => h, fun _ _ _ _ h => h, fun _ _ _ _ h => h, trivial⟩ (by kernel_rfl) (fun _ => rfl) ⟨?_, ?_, ?_, ?_, ?_, ?_, ?_, ?_, ?_, ?_, ?_, ?_, ?_, ?_, ?_, ?_, ?_, ?_, ?_, ?_, ?_, ?_, ?_, ?_, trivial⟩ ?_
      ·
        intro vs W hE hp
        exact dr_plain rfl (dr_ex (v := .int .i64 (j : Int)) (Ex.move rfl rfl) (Bw.refl _) rfl)
      ·
        intro vs W hE hp
        exact dr_plain rfl (dr_ex (v := v246) (Ex.move rfl rfl) (Bw.refl _) rfl)
      ·
        intro vs W hE hp
        have p1 := hp 1 (by kernel_rfl)
        simp only [List.getD_cons_zero, List.getD_cons_succ] at p1
        exact dr_plain rfl (dr_ex (v := .int .i64 ((normAt lb).length : Int)) (Ex.lenSl (l := normAt lb) ⟨_, under22⟩ rfl p1 ((hS.ext hE).mem (.tail _ (.tail _ (.head _))))) (Bw.refl _) rfl)
      ·
        intro vs W hE hp
        have p0 := hp 0 (by kernel_rfl)
        simp only [List.getD_cons_zero, List.getD_cons_succ] at p0
        have p2 := hp 2 (by kernel_rfl)
        simp only [List.getD_cons_zero, List.getD_cons_succ] at p2
        exact dr_plain rfl (dr_ex (v := .bool (decide ((j : Int) = ((normAt lb).length : Int)))) (Ex.eq rfl p0 p2) (Bw.refl _) rfl)
      ·
        intro vs W hE hp
        have p3 := hp 3 (by kernel_rfl)
        simp only [List.getD_cons_zero, List.getD_cons_succ] at p3
        exact dr_plain rfl (dr_ex (v := .bool (decide ((j : Int) = ((normAt lb).length : Int)))) (Ex.move rfl p3) (Bw.refl _) rfl)
      ·
        intro vs W hE hp
        have p4 := hp 4 (by kernel_rfl)
        simp only [List.getD_cons_zero, List.getD_cons_succ] at p4
        exact dr_on rfl rfl rfl p4 (congrArg Value.bool hg253) (dr_ex (v := .int .i64 (i : Int)) (Ex.move rfl rfl) (Bw.refl _) rfl)
      ·
        intro vs W hE hp
        have p4 := hp 4 (by kernel_rfl)
        simp only [List.getD_cons_zero, List.getD_cons_succ] at p4
        exact dr_on rfl rfl rfl p4 (congrArg Value.bool hg253) (dr_ex (v := v243) (Ex.move rfl rfl) (Bw.refl _) rfl)
      ·
        intro vs W hE hp
        have p4 := hp 4 (by kernel_rfl)
        simp only [List.getD_cons_zero, List.getD_cons_succ] at p4
        have p6 := hp 6 (by kernel_rfl)
        simp only [List.getD_cons_zero, List.getD_cons_succ] at p6
        exact dr_on rfl rfl rfl p4 (congrArg Value.bool hg253) (dr_ex (v := .int .i64 ((normAt la).length : Int)) (Ex.lenSl (l := normAt la) ⟨_, under22⟩ rfl p6 ((hS.ext hE).mem (.tail _ (.tail _ (.tail _ (.head _)))))) (Bw.refl _) rfl)
      ·
        intro vs W hE hp
        have p4 := hp 4 (by kernel_rfl)
        simp only [List.getD_cons_zero, List.getD_cons_succ] at p4
        have p5 := hp 5 (by kernel_rfl)
        simp only [List.getD_cons_zero, List.getD_cons_succ] at p5
        have p7 := hp 7 (by kernel_rfl)
        simp only [List.getD_cons_zero, List.getD_cons_succ] at p7
        exact dr_on rfl rfl rfl p4 (congrArg Value.bool hg253) (dr_ex (v := .bool (decide ((i : Int) < ((normAt la).length : Int)))) (Ex.lt rfl p5 p7) (Bw.refl _) rfl)
      ·
        intro vs W hE hp
        have p4 := hp 4 (by kernel_rfl)
        simp only [List.getD_cons_zero, List.getD_cons_succ] at p4
        have p8 := hp 8 (by kernel_rfl)
        simp only [List.getD_cons_zero, List.getD_cons_succ] at p8
        exact dr_on rfl rfl rfl p4 (congrArg Value.bool hg253) (dr_ex (v := .bool (decide ((i : Int) < ((normAt la).length : Int)))) (Ex.move rfl p8) (Bw.refl _) rfl)
      ·
        intro vs W hE hp
        have p9 := hp 9 (by kernel_rfl)
        simp only [List.getD_cons_zero, List.getD_cons_succ] at p9
        exact dr_on rfl rfl rfl p9 (congrArg Value.bool hg251) (dr_ex (v := v243) (Ex.move rfl rfl) (Bw.refl _) rfl)
      ·
        intro vs W hE hp
        have p9 := hp 9 (by kernel_rfl)
        simp only [List.getD_cons_zero, List.getD_cons_succ] at p9
        exact dr_on rfl rfl rfl p9 (congrArg Value.bool hg251) (dr_ex (v := .int .i64 (i : Int)) (Ex.move rfl rfl) (Bw.refl _) rfl)
      ·
        intro vs W hE hp
        have p9 := hp 9 (by kernel_rfl)
        simp only [List.getD_cons_zero, List.getD_cons_succ] at p9
        have p10 := hp 10 (by kernel_rfl)
        simp only [List.getD_cons_zero, List.getD_cons_succ] at p10
        have p11 := hp 11 (by kernel_rfl)
        simp only [List.getD_cons_zero, List.getD_cons_succ] at p11
        exact dr_on rfl rfl rfl p9 (congrArg Value.bool hg251) (dr_ex (v := .pointer (some ⟨b268, po269, none⟩)) (Ex.indexC hi272 rfl p10 p11) (Bw.refl _) rfl)
      ·
        intro vs W hE hp
        have p9 := hp 9 (by kernel_rfl)
        simp only [List.getD_cons_zero, List.getD_cons_succ] at p9
        have p12 := hp 12 (by kernel_rfl)
        simp only [List.getD_cons_zero, List.getD_cons_succ] at p12
        exact dr_on rfl rfl rfl p9 (congrArg Value.bool hg251) (dr_ex (v := .pointer (some ⟨b268, po269, none⟩)) (Ex.fieldAddr' fieldAt71_0 rfl p12) (Bw.refl _) rfl)
      ·
        intro vs W hE hp
        have p9 := hp 9 (by kernel_rfl)
        simp only [List.getD_cons_zero, List.getD_cons_succ] at p9
        have p13 := hp 13 (by kernel_rfl)
        simp only [List.getD_cons_zero, List.getD_cons_succ] at p13
        exact dr_on rfl rfl rfl p9 (congrArg Value.bool hg251) (dr_ex (v := .agg x270.k.enc) (Ex.loadA tyAgg61 rfl p13 (Reads.sub (cs := x270.enc.toList) ((hS.ext hE).get 1 rfl) 0 (ds := x270.k.enc.toList) rfl) rfl) (Bw.refl _) rfl)
      ·
        intro vs W hE hp
        have p9 := hp 9 (by kernel_rfl)
        simp only [List.getD_cons_zero, List.getD_cons_succ] at p9
        exact dr_on rfl rfl rfl p9 (congrArg Value.bool hg251) (dr_ex (v := v246) (Ex.move rfl rfl) (Bw.refl _) rfl)
      ·
        intro vs W hE hp
        have p9 := hp 9 (by kernel_rfl)
        simp only [List.getD_cons_zero, List.getD_cons_succ] at p9
        exact dr_on rfl rfl rfl p9 (congrArg Value.bool hg251) (dr_ex (v := .int .i64 (j : Int)) (Ex.move rfl rfl) (Bw.refl _) rfl)
      ·
        intro vs W hE hp
        have p9 := hp 9 (by kernel_rfl)
        simp only [List.getD_cons_zero, List.getD_cons_succ] at p9
        have p15 := hp 15 (by kernel_rfl)
        simp only [List.getD_cons_zero, List.getD_cons_succ] at p15
        have p16 := hp 16 (by kernel_rfl)
        simp only [List.getD_cons_zero, List.getD_cons_succ] at p16
        exact dr_on rfl rfl rfl p9 (congrArg Value.bool hg251) (dr_ex (v := .pointer (some ⟨b274, po275, none⟩)) (Ex.indexC hi278 rfl p15 p16) (Bw.refl _) rfl)
      ·
        intro vs W hE hp
        have p9 := hp 9 (by kernel_rfl)
        simp only [List.getD_cons_zero, List.getD_cons_succ] at p9
        have p17 := hp 17 (by kernel_rfl)
        simp only [List.getD_cons_zero, List.getD_cons_succ] at p17
        exact dr_on rfl rfl rfl p9 (congrArg Value.bool hg251) (dr_ex (v := .pointer (some ⟨b274, po275, none⟩)) (Ex.fieldAddr' fieldAt71_0 rfl p17) (Bw.refl _) rfl)
      ·
        intro vs W hE hp
        have p9 := hp 9 (by kernel_rfl)
        simp only [List.getD_cons_zero, List.getD_cons_succ] at p9
        have p18 := hp 18 (by kernel_rfl)
        simp only [List.getD_cons_zero, List.getD_cons_succ] at p18
        exact dr_on rfl rfl rfl p9 (congrArg Value.bool hg251) (dr_ex (v := .agg x276.k.enc) (Ex.loadA tyAgg61 rfl p18 (Reads.sub (cs := x276.enc.toList) ((hS.ext hE).get 0 rfl) 0 (ds := x276.k.enc.toList) rfl) rfl) (Bw.refl _) rfl)
      ·
        intro vs W hE hp
        have p9 := hp 9 (by kernel_rfl)
        simp only [List.getD_cons_zero, List.getD_cons_succ] at p9
        have p14 := hp 14 (by kernel_rfl)
        simp only [List.getD_cons_zero, List.getD_cons_succ] at p14
        have p19 := hp 19 (by kernel_rfl)
        simp only [List.getD_cons_zero, List.getD_cons_succ] at p19
        exact dr_on rfl rfl rfl p9 (congrArg Value.bool hg251) (dr_callS (v := .bool (x270.k.lt x276.k)) (enterS eg70 (args := [.agg x270.k.enc, .agg x276.k.enc]) rfl rfl rfl (l2 p14 p19)) (c_rless x270.k x276.k _) (fun _ => rfl))
      ·
        intro vs W hE hp
        have p4 := hp 4 (by kernel_rfl)
        simp only [List.getD_cons_zero, List.getD_cons_succ] at p4
        have p9 := hp 9 (by kernel_rfl)
        simp only [List.getD_cons_zero, List.getD_cons_succ] at p9
        have p20 := hp 20 (by kernel_rfl)
        simp only [List.getD_cons_zero, List.getD_cons_succ] at p20
        exact dr_on rfl rfl rfl p4 (congrArg Value.bool hg253) (dr_ex (v := .bool (x270.k.lt x276.k)) (Ex.pickT rfl (p9.trans (congrArg Value.bool hg251)) p20) (Bw.refl _) rfl)
      ·
        intro vs W hE hp
        have p4 := hp 4 (by kernel_rfl)
        simp only [List.getD_cons_zero, List.getD_cons_succ] at p4
        have p21 := hp 21 (by kernel_rfl)
        simp only [List.getD_cons_zero, List.getD_cons_succ] at p21
        exact dr_plain rfl (dr_ex (v := .bool (x270.k.lt x276.k)) (Ex.pickF rfl (p4.trans (congrArg Value.bool hg253)) p21) (Bw.refl _) rfl)
      ·
        intro vs W hE hp
        have p22 := hp 22 (by kernel_rfl)
        simp only [List.getD_cons_zero, List.getD_cons_succ] at p22
        exact dr_plain rfl (dr_ex (v := .bool (x270.k.lt x276.k)) (Ex.assign rfl p22) (Bw.refl _) rfl)
      intro vs W280 hE hv
      have hS0 := hS; replace hS := hS.ext hE
      have p0 : vs 0 = .int .i64 (j : Int) := hv 0 (by decide)
      have p1 : vs 1 = v246 := hv 1 (by decide)
      have p2 : vs 2 = .int .i64 ((normAt lb).length : Int) := hv 2 (by decide)
      have p3 : vs 3 = .bool (decide ((j : Int) = ((normAt lb).length : Int))) := hv 3 (by decide)
      have p4 : vs 4 = .bool (decide ((j : Int) = ((normAt lb).length : Int))) := hv 4 (by decide)
      have p5 : vs 5 = .int .i64 (i : Int) := hv 5 (by decide)
      have p6 : vs 6 = v243 := hv 6 (by decide)
      have p7 : vs 7 = .int .i64 ((normAt la).length : Int) := hv 7 (by decide)
      have p8 : vs 8 = .bool (decide ((i : Int) < ((normAt la).length : Int))) := hv 8 (by decide)
      have p9 : vs 9 = .bool (decide ((i : Int) < ((normAt la).length : Int))) := hv 9 (by decide)
      have p10 : vs 10 = v243 := hv 10 (by decide)
      have p11 : vs 11 = .int .i64 (i : Int) := hv 11 (by decide)
      have p12 : vs 12 = .pointer (some ⟨b268, po269, none⟩) := hv 12 (by decide)
      have p13 : vs 13 = .pointer (some ⟨b268, po269, none⟩) := hv 13 (by decide)
      have p14 : vs 14 = .agg x270.k.enc := hv 14 (by decide)
      have p15 : vs 15 = v246 := hv 15 (by decide)
      have p16 : vs 16 = .int .i64 (j : Int) := hv 16 (by decide)
      have p17 : vs 17 = .pointer (some ⟨b274, po275, none⟩) := hv 17 (by decide)
      have p18 : vs 18 = .pointer (some ⟨b274, po275, none⟩) := hv 18 (by decide)
      have p19 : vs 19 = .agg x276.k.enc := hv 19 (by decide)
      have p20 : vs 20 = .bool (x270.k.lt x276.k) := hv 20 (by decide)
      have p21 : vs 21 = .bool (x270.k.lt x276.k) := hv 21 (by decide)
      have p22 : vs 22 = .bool (x270.k.lt x276.k) := hv 22 (by decide)
      have p23 : vs 23 = .bool (x270.k.lt x276.k) := hv 23 (by decide)
      refine WL.keep (k := [(47, .int .i64 (j : Int)), (48, v246), (49, .int .i64 ((normAt lb).length : Int)), (50, .bool (decide ((j : Int) = ((normAt lb).length : Int)))), (51, .bool (decide ((j : Int) = ((normAt lb).length : Int)))), (52, .int .i64 (i : Int)), (53, v243), (54, .int .i64 ((normAt la).length : Int)), (55, .bool (decide ((i : Int) < ((normAt la).length : Int)))), (56, .bool (decide ((i : Int) < ((normAt la).length : Int)))), (57, v243), (58, .int .i64 (i : Int)), (59, .pointer (some ⟨b268, po269, none⟩)), (60, .pointer (some ⟨b268, po269, none⟩)), (61, .agg x270.k.enc), (62, v246), (63, .int .i64 (j : Int)), (64, .pointer (some ⟨b274, po275, none⟩)), (65, .pointer (some ⟨b274, po275, none⟩)), (66, .agg x276.k.enc), (67, .bool (x270.k.lt x276.k)), (68, .bool (x270.k.lt x276.k)), (69, .bool (x270.k.lt x276.k)), (46, .bool (x270.k.lt x276.k))]) ⟨p0, p1, p2, p3, p4, p5, p6, p7, p8, p9, p10, p11, p12, p13, p14, p15, p16, p17, p18, p19, p20, p21, p22, p23, trivial⟩ ?_
      refine WL.nil ?_
      refine then_normal ?_
      refine WP.cond (b := x270.k.lt x276.k) rfl (fun hc281 => ?_) (fun hc281 => ?_)
      ·
        refine WP.seq ?_
        refine WP.region ?_
        refine WL.op (v := vo) rfl rfl rfl (Ex.move rfl rfl) ?_
        refine WL.op (v := v243) rfl rfl rfl (Ex.move rfl rfl) ?_
        refine WL.op (v := .int .i64 (i : Int)) rfl rfl rfl (Ex.move rfl rfl) ?_
        refine WL.op (v := .pointer (some ⟨b268, po269, none⟩)) rfl rfl rfl (Ex.indexC hi272 rfl rfl rfl) ?_
        refine WL.op (v := .agg x270.enc) rfl rfl rfl (Ex.loadA tyAgg71 rfl rfl (Reads.sub (cs := x270.enc.toList) (hS.get 1 rfl) 0 (ds := x270.enc.toList) rfl) rfl) ?_
        refine WL.buildSlice (ps := [(0, .agg x270.enc)]) (C := x270.enc) (E := 71) rfl (fun _ => by kernel_rfl) hS rfl rfl rfl rfl (fun b282 W283 hS => ?_)
        have hNb282 : w.heap.size ≤ b282 := hS.ge 0 rfl
        replace hS := hS.slice (α := At) (xs := [x270]) (cap := 1) rfl (by simp)
        refine WL.append (α := At) (a := x270) under22 infT71 rfl (by decide) (by decide) [] hO hS (hS.mem (.head _)) (by omega) rfl rfl rfl rfl rfl rfl (fun vo284 eo285 W286 hO287 hS => ?_)
        refine WL.op (v := vo284) rfl rfl rfl (Ex.assign rfl rfl) ?_
        refine WL.nil ?_
        refine then_normal ?_
        refine WP.region ?_
        refine WL.op (v := .int .i64 (i : Int)) rfl rfl rfl (Ex.move rfl rfl) ?_
        refine WL.op (v := .int .i64 ((i + 1 : Nat) : Int)) rfl rfl rfl (Ex.add rfl rfl rfl (wrap_succ (by omega))) ?_
        refine WL.op (v := .int .i64 ((i + 1 : Nat) : Int)) rfl rfl rfl (Ex.assign rfl rfl) ?_
        refine WL.nil ?_
        refine inBlock_normal ?_
        refine inBlock_normal ?_
        refine then_normal ?_
        exact ⟨_, ⟨i + 1, j, vo284, eo285, d ++ [x270], _, fr_keep ⟨rfl, rfl, rfl, rfl, rfl, rfl, trivial⟩, rfl, hS.drop 0 3, (by omega), (by omega), hO287, (by rw [hd, List.append_assoc]; congr 1; exact merge_l1 hx271 hx277 hc281), (by simp only [List.length_append, List.length_cons, List.length_nil]; omega)⟩, by simp only [id]; omega⟩
      ·
        refine WP.seq ?_
        rcases Bool.eq_false_or_eq_true (decide ((i : Int) = ((normAt la).length : Int))) with hg288 | hg288
        ·
          have hg288' : (i : Int) = ((normAt la).length : Int) := by simpa using hg288
          refine WP.drawL 18 [(fun u_ _ => u_ = .int .i64 (i : Int)), (fun u_ _ => u_ = v243), (fun u_ _ => u_ = .int .i64 ((normAt la).length : Int)), (fun u_ _ => u_ = .bool (decide ((i : Int) = ((normAt la).length : Int)))), (fun u_ _ => u_ = .bool (decide ((i : Int) = ((normAt la).length : Int)))), (fun u_ _ => u_ = undef), (fun u_ _ => u_ = undef), (fun u_ _ => u_ = undef), (fun u_ _ => u_ = undef), (fun u_ _ => u_ = undef), (fun u_ _ => u_ = undef), (fun u_ _ => u_ = undef), (fun u_ _ => u_ = undef), (fun u_ _ => u_ = undef), (fun u_ _ => u_ = undef), (fun u_ _ => u_ = undef), (fun u_ _ => u_ = .bool true), (fun u_ _ => u_ = .bool true)] (fun vs => (79, vs 17) :: (96, vs 16) :: (95, vs 15) :: (94, vs 14) :: (93, vs 13) :: (92, vs 12) :: (91, vs 11) :: (90, vs 10) :: (89, vs 9) :: (88, vs 8) :: (87, vs 7) :: (86, vs 6) :: (85, vs 5) :: (84, vs 4) :: (83, vs 3) :: (82, vs 2) :: (81, vs 1) :: (80, vs 0) :: _) ⟨fun _ _ _ _ h => h, fun _ _ _ _ h => h, fun _ _ _ _ h => h, fun _ _ _ _ h => h, fun _ _ _ _ h => h, fun _ _ _ _ h => h, fun _ _ _ _ h => h, fun _ _ _ _ h => h, fun _ _ _ _ h => h, fun _ _ _ _ h => h, fun _ _ _ _ h => h, fun _ _ _ _ h => h, fun _ _ _ _ h => h, fun _ _ _ _ h => h, fun _ _ _ _ h => h, fun _ _ _ _ h => h, fun _ _ _ _ h => h, fun _ _ _ _ h => h, trivial⟩ (by kernel_rfl) (fun _ => rfl) ⟨?_, ?_, ?_, ?_, ?_, ?_, ?_, ?_, ?_, ?_, ?_, ?_, ?_, ?_, ?_, ?_, ?_, ?_, trivial⟩ ?_
          ·
            intro vs W hE hp
            exact dr_plain rfl (dr_ex (v := .int .i64 (i : Int)) (Ex.move rfl rfl) (Bw.refl _) rfl)
          ·
            intro vs W hE hp
            exact dr_plain rfl (dr_ex (v := v243) (Ex.move rfl rfl) (Bw.refl _) rfl)
          ·
            intro vs W hE hp
            have p1 := hp 1 (by kernel_rfl)
            simp only [List.getD_cons_zero, List.getD_cons_succ] at p1
            exact dr_plain rfl (dr_ex (v := .int .i64 ((normAt la).length : Int)) (Ex.lenSl (l := normAt la) ⟨_, under22⟩ rfl p1 ((hS.ext hE).mem (.tail _ (.tail _ (.tail _ (.head _)))))) (Bw.refl _) rfl)
          ·
            intro vs W hE hp
            have p0 := hp 0 (by kernel_rfl)
            simp only [List.getD_cons_zero, List.getD_cons_succ] at p0
            have p2 := hp 2 (by kernel_rfl)
            simp only [List.getD_cons_zero, List.getD_cons_succ] at p2
            exact dr_plain rfl (dr_ex (v := .bool (decide ((i : Int) = ((normAt la).length : Int)))) (Ex.eq rfl p0 p2) (Bw.refl _) rfl)
          ·
            intro vs W hE hp
            have p3 := hp 3 (by kernel_rfl)
            simp only [List.getD_cons_zero, List.getD_cons_succ] at p3
            exact dr_plain rfl (dr_ex (v := .bool (decide ((i : Int) = ((normAt la).length : Int)))) (Ex.move rfl p3) (Bw.refl _) rfl)
          ·
            intro vs W hE hp
            have p4 := hp 4 (by kernel_rfl)
            simp only [List.getD_cons_zero, List.getD_cons_succ] at p4
            exact dr_off rfl rfl rfl p4 (congrArg Value.bool hg288) rfl rfl
          ·
            intro vs W hE hp
            have p4 := hp 4 (by kernel_rfl)
            simp only [List.getD_cons_zero, List.getD_cons_succ] at p4
            exact dr_off rfl rfl rfl p4 (congrArg Value.bool hg288) rfl rfl
          ·
            intro vs W hE hp
            have p4 := hp 4 (by kernel_rfl)
            simp only [List.getD_cons_zero, List.getD_cons_succ] at p4
            have p5 := hp 5 (by kernel_rfl)
            simp only [List.getD_cons_zero, List.getD_cons_succ] at p5
            have p6 := hp 6 (by kernel_rfl)
            simp only [List.getD_cons_zero, List.getD_cons_succ] at p6
            exact dr_off rfl rfl rfl p4 (congrArg Value.bool hg288) rfl rfl
          ·
            intro vs W hE hp
            have p4 := hp 4 (by kernel_rfl)
            simp only [List.getD_cons_zero, List.getD_cons_succ] at p4
            have p7 := hp 7 (by kernel_rfl)
            simp only [List.getD_cons_zero, List.getD_cons_succ] at p7
            exact dr_off rfl rfl rfl p4 (congrArg Value.bool hg288) rfl rfl
          ·
            intro vs W hE hp
            have p4 := hp 4 (by kernel_rfl)
            simp only [List.getD_cons_zero, List.getD_cons_succ] at p4
            have p8 := hp 8 (by kernel_rfl)
            simp only [List.getD_cons_zero, List.getD_cons_succ] at p8
            exact dr_off rfl rfl rfl p4 (congrArg Value.bool hg288) rfl rfl
          ·
            intro vs W hE hp
            have p4 := hp 4 (by kernel_rfl)
            simp only [List.getD_cons_zero, List.getD_cons_succ] at p4
            exact dr_off rfl rfl rfl p4 (congrArg Value.bool hg288) rfl rfl
          ·
            intro vs W hE hp
            have p4 := hp 4 (by kernel_rfl)
            simp only [List.getD_cons_zero, List.getD_cons_succ] at p4
            exact dr_off rfl rfl rfl p4 (congrArg Value.bool hg288) rfl rfl
          ·
            intro vs W hE hp
            have p4 := hp 4 (by kernel_rfl)
            simp only [List.getD_cons_zero, List.getD_cons_succ] at p4
            have p10 := hp 10 (by kernel_rfl)
            simp only [List.getD_cons_zero, List.getD_cons_succ] at p10
            have p11 := hp 11 (by kernel_rfl)
            simp only [List.getD_cons_zero, List.getD_cons_succ] at p11
            exact dr_off rfl rfl rfl p4 (congrArg Value.bool hg288) rfl rfl
          ·
            intro vs W hE hp
            have p4 := hp 4 (by kernel_rfl)
            simp only [List.getD_cons_zero, List.getD_cons_succ] at p4
            have p12 := hp 12 (by kernel_rfl)
            simp only [List.getD_cons_zero, List.getD_cons_succ] at p12
            exact dr_off rfl rfl rfl p4 (congrArg Value.bool hg288) rfl rfl
          ·
            intro vs W hE hp
            have p4 := hp 4 (by kernel_rfl)
            simp only [List.getD_cons_zero, List.getD_cons_succ] at p4
            have p13 := hp 13 (by kernel_rfl)
            simp only [List.getD_cons_zero, List.getD_cons_succ] at p13
            exact dr_off rfl rfl rfl p4 (congrArg Value.bool hg288) rfl rfl
          ·
            intro vs W hE hp
            have p4 := hp 4 (by kernel_rfl)
            simp only [List.getD_cons_zero, List.getD_cons_succ] at p4
            have p9 := hp 9 (by kernel_rfl)
            simp only [List.getD_cons_zero, List.getD_cons_succ] at p9
            have p14 := hp 14 (by kernel_rfl)
            simp only [List.getD_cons_zero, List.getD_cons_succ] at p14
            exact dr_off rfl rfl rfl p4 (congrArg Value.bool hg288) rfl rfl
          ·
            intro vs W hE hp
            have p4 := hp 4 (by kernel_rfl)
            simp only [List.getD_cons_zero, List.getD_cons_succ] at p4
            have p15 := hp 15 (by kernel_rfl)
            simp only [List.getD_cons_zero, List.getD_cons_succ] at p15
            exact dr_plain rfl (dr_ex (v := .bool true) (Ex.pickT rfl (p4.trans (congrArg Value.bool hg288)) rfl) (Bw.refl _) rfl)
          ·
            intro vs W hE hp
            have p16 := hp 16 (by kernel_rfl)
            simp only [List.getD_cons_zero, List.getD_cons_succ] at p16
            exact dr_plain rfl (dr_ex (v := .bool true) (Ex.assign rfl p16) (Bw.refl _) rfl)
          intro vs W289 hE hv
          have hS0 := hS; replace hS := hS.ext hE
          have p0 : vs 0 = .int .i64 (i : Int) := hv 0 (by decide)
          have p1 : vs 1 = v243 := hv 1 (by decide)
          have p2 : vs 2 = .int .i64 ((normAt la).length : Int) := hv 2 (by decide)
          have p3 : vs 3 = .bool (decide ((i : Int) = ((normAt la).length : Int))) := hv 3 (by decide)
          have p4 : vs 4 = .bool (decide ((i : Int) = ((normAt la).length : Int))) := hv 4 (by decide)
          have p16 : vs 16 = .bool true := hv 16 (by decide)
          have p17 : vs 17 = .bool true := hv 17 (by decide)
          refine WL.keep (k := [(80, .int .i64 (i : Int)), (81, v243), (82, .int .i64 ((normAt la).length : Int)), (83, .bool (decide ((i : Int) = ((normAt la).length : Int)))), (84, .bool (decide ((i : Int) = ((normAt la).length : Int)))), (96, .bool true), (79, .bool true)]) ⟨p0, p1, p2, p3, p4, p16, p17, trivial⟩ ?_
          refine WL.nil ?_
          refine then_normal ?_
          refine WP.condT rfl ?_
          refine WP.seq ?_
          refine WP.region ?_
          refine WL.op (v := vo) rfl rfl rfl (Ex.move rfl rfl) ?_
          refine WL.op (v := v246) rfl rfl rfl (Ex.move rfl rfl) ?_
          refine WL.op (v := .int .i64 (j : Int)) rfl rfl rfl (Ex.move rfl rfl) ?_
          refine WL.op (v := .pointer (some ⟨b274, po275, none⟩)) rfl rfl rfl (Ex.indexC hi278 rfl rfl rfl) ?_
          refine WL.op (v := .agg x276.enc) rfl rfl rfl (Ex.loadA tyAgg71 rfl rfl (Reads.sub (cs := x276.enc.toList) (hS.get 0 rfl) 0 (ds := x276.enc.toList) rfl) rfl) ?_
          refine WL.buildSlice (ps := [(0, .agg x276.enc)]) (C := x276.enc) (E := 71) rfl (fun _ => by kernel_rfl) hS rfl rfl rfl rfl (fun b290 W291 hS => ?_)
          have hNb290 : w.heap.size ≤ b290 := hS.ge 0 rfl
          replace hS := hS.slice (α := At) (xs := [x276]) (cap := 1) rfl (by simp)
          refine WL.append (α := At) (a := x276) under22 infT71 rfl (by decide) (by decide) [] hO hS (hS.mem (.head _)) (by omega) rfl rfl rfl rfl rfl rfl (fun vo292 eo293 W294 hO295 hS => ?_)
          refine WL.op (v := vo292) rfl rfl rfl (Ex.assign rfl rfl) ?_
          refine WL.nil ?_
          refine then_normal ?_
          refine WP.region ?_
          refine WL.op (v := .int .i64 (j : Int)) rfl rfl rfl (Ex.move rfl rfl) ?_
          refine WL.op (v := .int .i64 ((j + 1 : Nat) : Int)) rfl rfl rfl (Ex.add rfl rfl rfl (wrap_succ (by omega))) ?_
          refine WL.op (v := .int .i64 ((j + 1 : Nat) : Int)) rfl rfl rfl (Ex.assign rfl rfl) ?_
          refine WL.nil ?_
          refine inBlock_normal ?_
          refine inBlock_normal ?_
          refine then_normal ?_
          exact ⟨_, ⟨i, j + 1, vo292, eo293, d ++ [x276], _, fr_keep ⟨rfl, rfl, rfl, rfl, rfl, rfl, trivial⟩, rfl, hS.drop 0 3, (by omega), (by omega), hO295, (by rw [hd, List.append_assoc]; congr 1; first | (exfalso; omega) | exact merge_r0 (by omega) hx277), (by simp only [List.length_append, List.length_cons, List.length_nil]; omega)⟩, by simp only [id]; omega⟩
        ·
          have hg288' : ¬ ((i : Int) = ((normAt la).length : Int)) := by simpa using hg288
          refine WP.drawL 18 [(fun u_ _ => u_ = .int .i64 (i : Int)), (fun u_ _ => u_ = v243), (fun u_ _ => u_ = .int .i64 ((normAt la).length : Int)), (fun u_ _ => u_ = .bool (decide ((i : Int) = ((normAt la).length : Int)))), (fun u_ _ => u_ = .bool (decide ((i : Int) = ((normAt la).length : Int)))), (fun u_ _ => u_ = v246), (fun u_ _ => u_ = .int .i64 (j : Int)), (fun u_ _ => u_ = .pointer (some ⟨b274, po275, none⟩)), (fun u_ _ => u_ = .pointer (some ⟨b274, po275, none⟩)), (fun u_ _ => u_ = .agg x276.k.enc), (fun u_ _ => u_ = v243), (fun u_ _ => u_ = .int .i64 (i : Int)), (fun u_ _ => u_ = .pointer (some ⟨b268, po269, none⟩)), (fun u_ _ => u_ = .pointer (some ⟨b268, po269, none⟩)), (fun u_ _ => u_ = .agg x270.k.enc), (fun u_ _ => u_ = .bool (x276.k.lt x270.k)), (fun u_ _ => u_ = .bool (x276.k.lt x270.k)), (fun u_ _ => u_ = .bool (x276.k.lt x270.k))] (fun vs => (79, vs 17) :: (96, vs 16) :: (95, vs 15) :: (94, vs 14) :: (93, vs 13) :: (92, vs 12) :: (91, vs 11) :: (90, vs 10) :: (89, vs 9) :: (88, vs 8) :: (87, vs 7) :: (86, vs 6) :: (85, vs 5) :: (84, vs 4) :: (83, vs 3) :: (82, vs 2) :: (81, vs 1) :: (80, vs 0) :: _) ⟨fun _ _ _ _ h => h, fun _ _ _ _ h => h, fun _ _ _ _ h => h, fun _ _ _ _ h => h, fun _ _ _ _ h => h, fun _ _ _ _ h => h, fun _ _ _ _ h => h, fun _ _ _ _ h => h, fun _ _ _ _ h => h, fun _ _ _ _ h => h, fun _ _ _ _ h => h, fun _ _ _ _ h => h, fun _ _ _ _ h => h, fun _ _ _ _ h => h, fun _ _ _ _ h => h, fun _ _ _ _ h => h, fun _ _ _ _ h => h, fun _ _ _ _ h => h, trivial⟩ (by kernel_rfl) (fun _ => rfl) ⟨?_, ?_, ?_, ?_, ?_, ?_, ?_, ?_, ?_, ?_, ?_, ?_, ?_, ?_, ?_, ?_, ?_, ?_, trivial⟩ ?_
          ·
            intro vs W hE hp
            exact dr_plain rfl (dr_ex (v := .int .i64 (i : Int)) (Ex.move rfl rfl) (Bw.refl _) rfl)
          ·
            intro vs W hE hp
            exact dr_plain rfl (dr_ex (v := v243) (Ex.move rfl rfl) (Bw.refl _) rfl)
          ·
            intro vs W hE hp
            have p1 := hp 1 (by kernel_rfl)
            simp only [List.getD_cons_zero, List.getD_cons_succ] at p1
            exact dr_plain rfl (dr_ex (v := .int .i64 ((normAt la).length : Int)) (Ex.lenSl (l := normAt la) ⟨_, under22⟩ rfl p1 ((hS.ext hE).mem (.tail _ (.tail _ (.tail _ (.head _)))))) (Bw.refl _) rfl)
          ·
            intro vs W hE hp
            have p0 := hp 0 (by kernel_rfl)
            simp only [List.getD_cons_zero, List.getD_cons_succ] at p0
            have p2 := hp 2 (by kernel_rfl)
            simp only [List.getD_cons_zero, List.getD_cons_succ] at p2
            exact dr_plain rfl (dr_ex (v := .bool (decide ((i : Int) = ((normAt la).length : Int)))) (Ex.eq rfl p0 p2) (Bw.refl _) rfl)
          ·
            intro vs W hE hp
            have p3 := hp 3 (by kernel_rfl)
            simp only [List.getD_cons_zero, List.getD_cons_succ] at p3
            exact dr_plain rfl (dr_ex (v := .bool (decide ((i : Int) = ((normAt la).length : Int)))) (Ex.move rfl p3) (Bw.refl _) rfl)
          ·
            intro vs W hE hp
            have p4 := hp 4 (by kernel_rfl)
            simp only [List.getD_cons_zero, List.getD_cons_succ] at p4
            exact dr_on rfl rfl rfl p4 (congrArg Value.bool hg288) (dr_ex (v := v246) (Ex.move rfl rfl) (Bw.refl _) rfl)
          ·
            intro vs W hE hp
            have p4 := hp 4 (by kernel_rfl)
            simp only [List.getD_cons_zero, List.getD_cons_succ] at p4
            exact dr_on rfl rfl rfl p4 (congrArg Value.bool hg288) (dr_ex (v := .int .i64 (j : Int)) (Ex.move rfl rfl) (Bw.refl _) rfl)
          ·
            intro vs W hE hp
            have p4 := hp 4 (by kernel_rfl)
            simp only [List.getD_cons_zero, List.getD_cons_succ] at p4
            have p5 := hp 5 (by kernel_rfl)
            simp only [List.getD_cons_zero, List.getD_cons_succ] at p5
            have p6 := hp 6 (by kernel_rfl)
            simp only [List.getD_cons_zero, List.getD_cons_succ] at p6
            exact dr_on rfl rfl rfl p4 (congrArg Value.bool hg288) (dr_ex (v := .pointer (some ⟨b274, po275, none⟩)) (Ex.indexC hi278 rfl p5 p6) (Bw.refl _) rfl)
          ·
            intro vs W hE hp
            have p4 := hp 4 (by kernel_rfl)
            simp only [List.getD_cons_zero, List.getD_cons_succ] at p4
            have p7 := hp 7 (by kernel_rfl)
            simp only [List.getD_cons_zero, List.getD_cons_succ] at p7
            exact dr_on rfl rfl rfl p4 (congrArg Value.bool hg288) (dr_ex (v := .pointer (some ⟨b274, po275, none⟩)) (Ex.fieldAddr' fieldAt71_0 rfl p7) (Bw.refl _) rfl)
          ·
            intro vs W hE hp
            have p4 := hp 4 (by kernel_rfl)
            simp only [List.getD_cons_zero, List.getD_cons_succ] at p4
            have p8 := hp 8 (by kernel_rfl)
            simp only [List.getD_cons_zero, List.getD_cons_succ] at p8
            exact dr_on rfl rfl rfl p4 (congrArg Value.bool hg288) (dr_ex (v := .agg x276.k.enc) (Ex.loadA tyAgg61 rfl p8 (Reads.sub (cs := x276.enc.toList) ((hS.ext hE).get 0 rfl) 0 (ds := x276.k.enc.toList) rfl) rfl) (Bw.refl _) rfl)
          ·
            intro vs W hE hp
            have p4 := hp 4 (by kernel_rfl)
            simp only [List.getD_cons_zero, List.getD_cons_succ] at p4
            exact dr_on rfl rfl rfl p4 (congrArg Value.bool hg288) (dr_ex (v := v243) (Ex.move rfl rfl) (Bw.refl _) rfl)
          ·
            intro vs W hE hp
            have p4 := hp 4 (by kernel_rfl)
            simp only [List.getD_cons_zero, List.getD_cons_succ] at p4
            exact dr_on rfl rfl rfl p4 (congrArg Value.bool hg288) (dr_ex (v := .int .i64 (i : Int)) (Ex.move rfl rfl) (Bw.refl _) rfl)
          ·
            intro vs W hE hp
            have p4 := hp 4 (by kernel_rfl)
            simp only [List.getD_cons_zero, List.getD_cons_succ] at p4
            have p10 := hp 10 (by kernel_rfl)
            simp only [List.getD_cons_zero, List.getD_cons_succ] at p10
            have p11 := hp 11 (by kernel_rfl)
            simp only [List.getD_cons_zero, List.getD_cons_succ] at p11
            exact dr_on rfl rfl rfl p4 (congrArg Value.bool hg288) (dr_ex (v := .pointer (some ⟨b268, po269, none⟩)) (Ex.indexC hi272 rfl p10 p11) (Bw.refl _) rfl)
          ·
            intro vs W hE hp
            have p4 := hp 4 (by kernel_rfl)
            simp only [List.getD_cons_zero, List.getD_cons_succ] at p4
            have p12 := hp 12 (by kernel_rfl)
            simp only [List.getD_cons_zero, List.getD_cons_succ] at p12
            exact dr_on rfl rfl rfl p4 (congrArg Value.bool hg288) (dr_ex (v := .pointer (some ⟨b268, po269, none⟩)) (Ex.fieldAddr' fieldAt71_0 rfl p12) (Bw.refl _) rfl)
          ·
            intro vs W hE hp
            have p4 := hp 4 (by kernel_rfl)
            simp only [List.getD_cons_zero, List.getD_cons_succ] at p4
            have p13 := hp 13 (by kernel_rfl)
            simp only [List.getD_cons_zero, List.getD_cons_succ] at p13
            exact dr_on rfl rfl rfl p4 (congrArg Value.bool hg288) (dr_ex (v := .agg x270.k.enc) (Ex.loadA tyAgg61 rfl p13 (Reads.sub (cs := x270.enc.toList) ((hS.ext hE).get 1 rfl) 0 (ds := x270.k.enc.toList) rfl) rfl) (Bw.refl _) rfl)
          ·
            intro vs W hE hp
            have p4 := hp 4 (by kernel_rfl)
            simp only [List.getD_cons_zero, List.getD_cons_succ] at p4
            have p9 := hp 9 (by kernel_rfl)
            simp only [List.getD_cons_zero, List.getD_cons_succ] at p9
            have p14 := hp 14 (by kernel_rfl)
            simp only [List.getD_cons_zero, List.getD_cons_succ] at p14
            exact dr_on rfl rfl rfl p4 (congrArg Value.bool hg288) (dr_callS (v := .bool (x276.k.lt x270.k)) (enterS eg70 (args := [.agg x276.k.enc, .agg x270.k.enc]) rfl rfl rfl (l2 p9 p14)) (c_rless x276.k x270.k _) (fun _ => rfl))
          ·
            intro vs W hE hp
            have p4 := hp 4 (by kernel_rfl)
            simp only [List.getD_cons_zero, List.getD_cons_succ] at p4
            have p15 := hp 15 (by kernel_rfl)
            simp only [List.getD_cons_zero, List.getD_cons_succ] at p15
            exact dr_plain rfl (dr_ex (v := .bool (x276.k.lt x270.k)) (Ex.pickF rfl (p4.trans (congrArg Value.bool hg288)) p15) (Bw.refl _) rfl)
          ·
            intro vs W hE hp
            have p16 := hp 16 (by kernel_rfl)
            simp only [List.getD_cons_zero, List.getD_cons_succ] at p16
            exact dr_plain rfl (dr_ex (v := .bool (x276.k.lt x270.k)) (Ex.assign rfl p16) (Bw.refl _) rfl)
          intro vs W296 hE hv
          have hS0 := hS; replace hS := hS.ext hE
          have p0 : vs 0 = .int .i64 (i : Int) := hv 0 (by decide)
          have p1 : vs 1 = v243 := hv 1 (by decide)
          have p2 : vs 2 = .int .i64 ((normAt la).length : Int) := hv 2 (by decide)
          have p3 : vs 3 = .bool (decide ((i : Int) = ((normAt la).length : Int))) := hv 3 (by decide)
          have p4 : vs 4 = .bool (decide ((i : Int) = ((normAt la).length : Int))) := hv 4 (by decide)
          have p5 : vs 5 = v246 := hv 5 (by decide)
          have p6 : vs 6 = .int .i64 (j : Int) := hv 6 (by decide)
          have p7 : vs 7 = .pointer (some ⟨b274, po275, none⟩) := hv 7 (by decide)
          have p8 : vs 8 = .pointer (some ⟨b274, po275, none⟩) := hv 8 (by decide)
          have p9 : vs 9 = .agg x276.k.enc := hv 9 (by decide)
          have p10 : vs 10 = v243 := hv 10 (by decide)
          have p11 : vs 11 = .int .i64 (i : Int) := hv 11 (by decide)
          have p12 : vs 12 = .pointer (some ⟨b268, po269, none⟩) := hv 12 (by decide)
          have p13 : vs 13 = .pointer (some ⟨b268, po269, none⟩) := hv 13 (by decide)
          have p14 : vs 14 = .agg x270.k.enc := hv 14 (by decide)
          have p15 : vs 15 = .bool (x276.k.lt x270.k) := hv 15 (by decide)
          have p16 : vs 16 = .bool (x276.k.lt x270.k) := hv 16 (by decide)
          have p17 : vs 17 = .bool (x276.k.lt x270.k) := hv 17 (by decide)
          refine WL.keep (k := [(80, .int .i64 (i : Int)), (81, v243), (82, .int .i64 ((normAt la).length : Int)), (83, .bool (decide ((i : Int) = ((normAt la).length : Int)))), (84, .bool (decide ((i : Int) = ((normAt la).length : Int)))), (85, v246), (86, .int .i64 (j : Int)), (87, .pointer (some ⟨b274, po275, none⟩)), (88, .pointer (some ⟨b274, po275, none⟩)), (89, .agg x276.k.enc), (90, v243), (91, .int .i64 (i : Int)), (92, .pointer (some ⟨b268, po269, none⟩)), (93, .pointer (some ⟨b268, po269, none⟩)), (94, .agg x270.k.enc), (95, .bool (x276.k.lt x270.k)), (96, .bool (x276.k.lt x270.k)), (79, .bool (x276.k.lt x270.k))]) ⟨p0, p1, p2, p3, p4, p5, p6, p7, p8, p9, p10, p11, p12, p13, p14, p15, p16, p17, trivial⟩ ?_
          refine WL.nil ?_
          refine then_normal ?_
          refine WP.cond (b := x276.k.lt x270.k) rfl (fun hc297 => ?_) (fun hc297 => ?_)
          ·
            refine WP.seq ?_
            refine WP.region ?_
            refine WL.op (v := vo) rfl rfl rfl (Ex.move rfl rfl) ?_
            refine WL.op (v := v246) rfl rfl rfl (Ex.move rfl rfl) ?_
            refine WL.op (v := .int .i64 (j : Int)) rfl rfl rfl (Ex.move rfl rfl) ?_
            refine WL.op (v := .pointer (some ⟨b274, po275, none⟩)) rfl rfl rfl (Ex.indexC hi278 rfl rfl rfl) ?_
            refine WL.op (v := .agg x276.enc) rfl rfl rfl (Ex.loadA tyAgg71 rfl rfl (Reads.sub (cs := x276.enc.toList) (hS.get 0 rfl) 0 (ds := x276.enc.toList) rfl) rfl) ?_
            refine WL.buildSlice (ps := [(0, .agg x276.enc)]) (C := x276.enc) (E := 71) rfl (fun _ => by kernel_rfl) hS rfl rfl rfl rfl (fun b298 W299 hS => ?_)
            have hNb298 : w.heap.size ≤ b298 := hS.ge 0 rfl
            replace hS := hS.slice (α := At) (xs := [x276]) (cap := 1) rfl (by simp)
            refine WL.append (α := At) (a := x276) under22 infT71 rfl (by decide) (by decide) [] hO hS (hS.mem (.head _)) (by omega) rfl rfl rfl rfl rfl rfl (fun vo300 eo301 W302 hO303 hS => ?_)
            refine WL.op (v := vo300) rfl rfl rfl (Ex.assign rfl rfl) ?_
            refine WL.nil ?_
            refine then_normal ?_
            refine WP.region ?_
            refine WL.op (v := .int .i64 (j : Int)) rfl rfl rfl (Ex.move rfl rfl) ?_
            refine WL.op (v := .int .i64 ((j + 1 : Nat) : Int)) rfl rfl rfl (Ex.add rfl rfl rfl (wrap_succ (by omega))) ?_
            refine WL.op (v := .int .i64 ((j + 1 : Nat) : Int)) rfl rfl rfl (Ex.assign rfl rfl) ?_
            refine WL.nil ?_
            refine inBlock_normal ?_
            refine inBlock_normal ?_
            refine then_normal ?_
            exact ⟨_, ⟨i, j + 1, vo300, eo301, d ++ [x276], _, fr_keep ⟨rfl, rfl, rfl, rfl, rfl, rfl, trivial⟩, rfl, hS.drop 0 3, (by omega), (by omega), hO303, (by rw [hd, List.append_assoc]; congr 1; exact merge_r1 hx271 hx277 hc281 hc297), (by simp only [List.length_append, List.length_cons, List.length_nil]; omega)⟩, by simp only [id]; omega⟩
          ·
            refine WP.seq ?_
            refine WP.drawL 19 [(fun u_ _ => u_ = vo), (fun u_ _ => u_ = v243), (fun u_ _ => u_ = .int .i64 (i : Int)), (fun u_ _ => u_ = .pointer (some ⟨b268, po269, none⟩)), (fun u_ _ => u_ = .pointer (some ⟨b268, po269, none⟩)), (fun u_ _ => u_ = .agg x270.k.enc), (fun u_ _ => u_ = v243), (fun u_ _ => u_ = .int .i64 (i : Int)), (fun u_ _ => u_ = .pointer (some ⟨b268, po269, none⟩)), (fun u_ _ => u_ = .pointer (some ⟨b268, po269 + 12, none⟩)), (fun u_ _ => u_ = .agg x270.v.enc), (fun u_ _ => u_ = v246), (fun u_ _ => u_ = .int .i64 (j : Int)), (fun u_ _ => u_ = .pointer (some ⟨b274, po275, none⟩)), (fun u_ _ => u_ = .pointer (some ⟨b274, po275 + 12, none⟩)), (fun u_ _ => u_ = .agg x276.v.enc), (fun u_ _ => u_ = .agg (x270.v.more x276.v).enc), (fun u_ _ => u_ = .agg (At.mk x270.k (x270.v.more x276.v)).enc), (fun u_ W_ => Sl W_ u_ [At.mk x270.k (x270.v.more x276.v)] ∧ New W296 u_)] (fun vs => (40, vs 18) :: (39, vs 17) :: (38, vs 16) :: (37, vs 15) :: (36, vs 14) :: (35, vs 13) :: (34, vs 12) :: (33, vs 11) :: (32, vs 10) :: (31, vs 9) :: (30, vs 8) :: (29, vs 7) :: (28, vs 6) :: (27, vs 5) :: (26, vs 4) :: (25, vs 3) :: (24, vs 2) :: (23, vs 1) :: (22, vs 0) :: _) ⟨fun _ _ _ _ h => h, fun _ _ _ _ h => h, fun _ _ _ _ h => h, fun _ _ _ _ h => h, fun _ _ _ _ h => h, fun _ _ _ _ h => h, fun _ _ _ _ h => h, fun _ _ _ _ h => h, fun _ _ _ _ h => h, fun _ _ _ _ h => h, fun _ _ _ _ h => h, fun _ _ _ _ h => h, fun _ _ _ _ h => h, fun _ _ _ _ h => h, fun _ _ _ _ h => h, fun _ _ _ _ h => h, fun _ _ _ _ h => h, fun _ _ _ _ h => h, mono_sl, trivial⟩ (by kernel_rfl) (fun _ => rfl) ⟨?_, ?_, ?_, ?_, ?_, ?_, ?_, ?_, ?_, ?_, ?_, ?_, ?_, ?_, ?_, ?_, ?_, ?_, ?_, trivial⟩ ?_
            ·
              intro vs W hE hp
              exact dr_plain rfl (dr_ex (v := vo) (Ex.move rfl rfl) (Bw.refl _) rfl)
            ·
              intro vs W hE hp
              exact dr_plain rfl (dr_ex (v := v243) (Ex.move rfl rfl) (Bw.refl _) rfl)
            ·
              intro vs W hE hp
              exact dr_plain rfl (dr_ex (v := .int .i64 (i : Int)) (Ex.move rfl rfl) (Bw.refl _) rfl)
            ·
              intro vs W hE hp
              have p1 := hp 1 (by kernel_rfl)
              simp only [List.getD_cons_zero, List.getD_cons_succ] at p1
              have p2 := hp 2 (by kernel_rfl)
              simp only [List.getD_cons_zero, List.getD_cons_succ] at p2
              exact dr_plain rfl (dr_ex (v := .pointer (some ⟨b268, po269, none⟩)) (Ex.indexC hi272 rfl p1 p2) (Bw.refl _) rfl)
            ·
              intro vs W hE hp
              have p3 := hp 3 (by kernel_rfl)
              simp only [List.getD_cons_zero, List.getD_cons_succ] at p3
              exact dr_plain rfl (dr_ex (v := .pointer (some ⟨b268, po269, none⟩)) (Ex.fieldAddr' fieldAt71_0 rfl p3) (Bw.refl _) rfl)
            ·
              intro vs W hE hp
              have p4 := hp 4 (by kernel_rfl)
              simp only [List.getD_cons_zero, List.getD_cons_succ] at p4
              exact dr_plain rfl (dr_ex (v := .agg x270.k.enc) (Ex.loadA tyAgg61 rfl p4 (Reads.sub (cs := x270.enc.toList) ((hS.ext hE).get 1 rfl) 0 (ds := x270.k.enc.toList) rfl) rfl) (Bw.refl _) rfl)
            ·
              intro vs W hE hp
              exact dr_plain rfl (dr_ex (v := v243) (Ex.move rfl rfl) (Bw.refl _) rfl)
            ·
              intro vs W hE hp
              exact dr_plain rfl (dr_ex (v := .int .i64 (i : Int)) (Ex.move rfl rfl) (Bw.refl _) rfl)
            ·
              intro vs W hE hp
              have p6 := hp 6 (by kernel_rfl)
              simp only [List.getD_cons_zero, List.getD_cons_succ] at p6
              have p7 := hp 7 (by kernel_rfl)
              simp only [List.getD_cons_zero, List.getD_cons_succ] at p7
              exact dr_plain rfl (dr_ex (v := .pointer (some ⟨b268, po269, none⟩)) (Ex.indexC hi272 rfl p6 p7) (Bw.refl _) rfl)
            ·
              intro vs W hE hp
              have p8 := hp 8 (by kernel_rfl)
              simp only [List.getD_cons_zero, List.getD_cons_succ] at p8
              exact dr_plain rfl (dr_ex (v := .pointer (some ⟨b268, po269 + 12, none⟩)) (Ex.fieldAddr' fieldAt71_1 rfl p8) (Bw.refl _) rfl)
            ·
              intro vs W hE hp
              have p9 := hp 9 (by kernel_rfl)
              simp only [List.getD_cons_zero, List.getD_cons_succ] at p9
              exact dr_plain rfl (dr_ex (v := .agg x270.v.enc) (Ex.loadA tyAgg67 rfl p9 (Reads.sub (cs := x270.enc.toList) ((hS.ext hE).get 1 rfl) 12 (ds := x270.v.enc.toList) rfl) rfl) (Bw.refl _) rfl)
            ·
              intro vs W hE hp
              exact dr_plain rfl (dr_ex (v := v246) (Ex.move rfl rfl) (Bw.refl _) rfl)
            ·
              intro vs W hE hp
              exact dr_plain rfl (dr_ex (v := .int .i64 (j : Int)) (Ex.move rfl rfl) (Bw.refl _) rfl)
            ·
              intro vs W hE hp
              have p11 := hp 11 (by kernel_rfl)
              simp only [List.getD_cons_zero, List.getD_cons_succ] at p11
              have p12 := hp 12 (by kernel_rfl)
              simp only [List.getD_cons_zero, List.getD_cons_succ] at p12
              exact dr_plain rfl (dr_ex (v := .pointer (some ⟨b274, po275, none⟩)) (Ex.indexC hi278 rfl p11 p12) (Bw.refl _) rfl)
            ·
              intro vs W hE hp
              have p13 := hp 13 (by kernel_rfl)
              simp only [List.getD_cons_zero, List.getD_cons_succ] at p13
              exact dr_plain rfl (dr_ex (v := .pointer (some ⟨b274, po275 + 12, none⟩)) (Ex.fieldAddr' fieldAt71_1 rfl p13) (Bw.refl _) rfl)
            ·
              intro vs W hE hp
              have p14 := hp 14 (by kernel_rfl)
              simp only [List.getD_cons_zero, List.getD_cons_succ] at p14
              exact dr_plain rfl (dr_ex (v := .agg x276.v.enc) (Ex.loadA tyAgg67 rfl p14 (Reads.sub (cs := x276.enc.toList) ((hS.ext hE).get 0 rfl) 12 (ds := x276.v.enc.toList) rfl) rfl) (Bw.refl _) rfl)
            ·
              intro vs W hE hp
              have p10 := hp 10 (by kernel_rfl)
              simp only [List.getD_cons_zero, List.getD_cons_succ] at p10
              have p15 := hp 15 (by kernel_rfl)
              simp only [List.getD_cons_zero, List.getD_cons_succ] at p15
              exact dr_plain rfl (dr_callS (v := .agg (x270.v.more x276.v).enc) (enterS eg71 (args := [.agg x270.v.enc, .agg x276.v.enc]) rfl rfl rfl (l2 p10 p15)) (c_rmore x270.v x276.v _) (fun _ => rfl))
            ·
              intro vs W hE hp
              have p5 := hp 5 (by kernel_rfl)
              simp only [List.getD_cons_zero, List.getD_cons_succ] at p5
              have p16 := hp 16 (by kernel_rfl)
              simp only [List.getD_cons_zero, List.getD_cons_succ] at p16
              exact dr_plain rfl (dr_ex (v := .agg (At.mk x270.k (x270.v.more x276.v)).enc) (Ex.build (ps := [(0, .agg x270.k.enc), (1, .agg (x270.v.more x276.v).enc)]) rfl (m2 p5 p16) (by kernel_rfl)) (Bw.refl _) rfl)
            ·
              intro vs W hE hp
              have p17 := hp 17 (by kernel_rfl)
              simp only [List.getD_cons_zero, List.getD_cons_succ] at p17
              exact dr_plain rfl (dr_slice1 rfl (m1 p17) (fun _ _ => by kernel_rfl) hE)
            intro vs W304 hE hv
            have hS0 := hS; replace hS := hS.ext hE
            have p0 : vs 0 = vo := hv 0 (by decide)
            have p1 : vs 1 = v243 := hv 1 (by decide)
            have p2 : vs 2 = .int .i64 (i : Int) := hv 2 (by decide)
            have p3 : vs 3 = .pointer (some ⟨b268, po269, none⟩) := hv 3 (by decide)
            have p4 : vs 4 = .pointer (some ⟨b268, po269, none⟩) := hv 4 (by decide)
            have p5 : vs 5 = .agg x270.k.enc := hv 5 (by decide)
            have p6 : vs 6 = v243 := hv 6 (by decide)
            have p7 : vs 7 = .int .i64 (i : Int) := hv 7 (by decide)
            have p8 : vs 8 = .pointer (some ⟨b268, po269, none⟩) := hv 8 (by decide)
            have p9 : vs 9 = .pointer (some ⟨b268, po269 + 12, none⟩) := hv 9 (by decide)
            have p10 : vs 10 = .agg x270.v.enc := hv 10 (by decide)
            have p11 : vs 11 = v246 := hv 11 (by decide)
            have p12 : vs 12 = .int .i64 (j : Int) := hv 12 (by decide)
            have p13 : vs 13 = .pointer (some ⟨b274, po275, none⟩) := hv 13 (by decide)
            have p14 : vs 14 = .pointer (some ⟨b274, po275 + 12, none⟩) := hv 14 (by decide)
            have p15 : vs 15 = .agg x276.v.enc := hv 15 (by decide)
            have p16 : vs 16 = .agg (x270.v.more x276.v).enc := hv 16 (by decide)
            have p17 : vs 17 = .agg (At.mk x270.k (x270.v.more x276.v)).enc := hv 17 (by decide)
            have p18 := hv 18 (by decide)
            obtain ⟨hv18, hn18⟩ := p18; have p18 : vs 18 = vs 18 := rfl
            replace hS := hS0.pinNew hS (pinSl (vs 18) [At.mk x270.k (x270.v.more x276.v)]) hv18 hn18
            replace p18 : vs 18 = vs 18 := rfl
            refine WL.keep (k := [(22, vo), (23, v243), (24, .int .i64 (i : Int)), (25, .pointer (some ⟨b268, po269, none⟩)), (26, .pointer (some ⟨b268, po269, none⟩)), (27, .agg x270.k.enc), (28, v243), (29, .int .i64 (i : Int)), (30, .pointer (some ⟨b268, po269, none⟩)), (31, .pointer (some ⟨b268, po269 + 12, none⟩)), (32, .agg x270.v.enc), (33, v246), (34, .int .i64 (j : Int)), (35, .pointer (some ⟨b274, po275, none⟩)), (36, .pointer (some ⟨b274, po275 + 12, none⟩)), (37, .agg x276.v.enc), (38, .agg (x270.v.more x276.v).enc), (39, .agg (At.mk x270.k (x270.v.more x276.v)).enc), (40, (vs 18))]) ⟨p0, p1, p2, p3, p4, p5, p6, p7, p8, p9, p10, p11, p12, p13, p14, p15, p16, p17, p18, trivial⟩ ?_
            refine WL.append (α := At) (a := At.mk x270.k (x270.v.more x276.v)) under22 infT71 rfl (by decide) (by decide) [] hO hS (hS.mem (.head _)) (by omega) rfl rfl rfl rfl rfl rfl (fun vo305 eo306 W307 hO308 hS => ?_)
            refine WL.op (v := vo305) rfl rfl rfl (Ex.assign rfl rfl) ?_
            refine WL.nil ?_
            refine then_normal ?_
            refine WP.seq ?_
            refine WP.region ?_
            refine WL.op (v := .int .i64 (i : Int)) rfl rfl rfl (Ex.move rfl rfl) ?_
            refine WL.op (v := .int .i64 ((i + 1 : Nat) : Int)) rfl rfl rfl (Ex.add rfl rfl rfl (wrap_succ (by omega))) ?_
            refine WL.op (v := .int .i64 ((i + 1 : Nat) : Int)) rfl rfl rfl (Ex.assign rfl rfl) ?_
            refine WL.nil ?_
            refine then_normal ?_
            refine WP.region ?_
            refine WL.op (v := .int .i64 (j : Int)) rfl rfl rfl (Ex.move rfl rfl) ?_
            refine WL.op (v := .int .i64 ((j + 1 : Nat) : Int)) rfl rfl rfl (Ex.add rfl rfl rfl (wrap_succ (by omega))) ?_
            refine WL.op (v := .int .i64 ((j + 1 : Nat) : Int)) rfl rfl rfl (Ex.assign rfl rfl) ?_
            refine WL.nil ?_
            refine inBlock_normal ?_
            refine inBlock_normal ?_
            refine then_normal ?_
            exact ⟨_, ⟨i + 1, j + 1, vo305, eo306, d ++ [At.mk x270.k (x270.v.more x276.v)], _, fr_keep ⟨rfl, rfl, rfl, rfl, rfl, rfl, trivial⟩, rfl, hS.drop 0 3, (by omega), (by omega), hO308, (by rw [hd, List.append_assoc]; congr 1; exact merge_b hx271 hx277 hc281 hc297), (by simp only [List.length_append, List.length_cons, List.length_nil]; omega)⟩, by simp only [id]; omega⟩
  ·
    have hg251' : ¬ ((i : Int) < ((normAt la).length : Int)) := by simpa using hg251
    refine WL.on rfl rfl rfl (congrArg Value.bool hg251) ?_
    refine WL.op (v := .int .i64 (j : Int)) rfl rfl rfl (Ex.move rfl rfl) ?_
    refine WL.on rfl rfl rfl (congrArg Value.bool hg251) ?_
    refine WL.op (v := v246) rfl rfl rfl (Ex.move rfl rfl) ?_
    refine WL.on rfl rfl rfl (congrArg Value.bool hg251) ?_
    have hl309 : (normAt lb).length < 4611686018427387904 := (hS.mem (.head _) : Sl _ _ _).lt
    refine WL.op (v := .int .i64 ((normAt lb).length : Int)) rfl rfl rfl (Ex.lenSl (l := normAt lb) ⟨_, under22⟩ rfl rfl (hS.mem (.head _))) ?_
    refine WL.on rfl rfl rfl (congrArg Value.bool hg251) ?_
    refine WL.op (v := .bool (decide ((j : Int) < ((normAt lb).length : Int)))) rfl rfl rfl (Ex.lt rfl rfl rfl) ?_
    refine WL.op (v := .bool (decide ((j : Int) < ((normAt lb).length : Int)))) rfl rfl rfl (Ex.pickF rfl (congrArg Value.bool hg251) rfl) ?_
    refine WL.nil ?_
    refine then_normal ?_
    refine WP.cond (b := decide ((j : Int) < ((normAt lb).length : Int))) rfl (fun hc310 => ?_) (fun hc310 => ?_)
    ·
      have hc310' : (j : Int) < ((normAt lb).length : Int) := by simpa using hc310
      refine WP.skip ?_
      refine then_normal ?_
      refine WP.block ?_
      refine WP.block ?_
      refine WP.seq ?_
      rcases Bool.eq_false_or_eq_true (decide ((j : Int) = ((normAt lb).length : Int))) with hg311 | hg311
      ·
        have hg311' : (j : Int) = ((normAt lb).length : Int) := by simpa using hg311
        refine WP.drawL 24 [(fun u_ _ => u_ = .int .i64 (j : Int)), (fun u_ _ => u_ = v246), (fun u_ _ => u_ = .int .i64 ((normAt lb).length : Int)), (fun u_ _ => u_ = .bool (decide ((j : Int) = ((normAt lb).length : Int)))), (fun u_ _ => u_ = .bool (decide ((j : Int) = ((normAt lb).length : Int)))), (fun u_ _ => u_ = undef), (fun u_ _ => u_ = undef), (fun u_ _ => u_ = undef), (fun u_ _ => u_ = undef), (fun u_ _ => u_ = undef), (fun u_ _ => u_ = undef), (fun u_ _ => u_ = undef), (fun u_ _ => u_ = undef), (fun u_ _ => u_ = undef), (fun u_ _ => u_ = undef), (fun u_ _ => u_ = undef), (fun u_ _ => u_ = undef), (fun u_ _ => u_ = undef), (fun u_ _ => u_ = undef), (fun u_ _ => u_ = undef), (fun u_ _ => u_ = undef), (fun u_ _ => u_ = undef), (fun u_ _ => u_ = .bool true), (fun u_ _ => u_ = .bool true)] (fun vs => (46, vs 23) :: (69, vs 22) :: (68, vs 21) :: (67, vs 20) :: (66, vs 19) :: (65, vs 18) :: (64, vs 17) :: (63, vs 16) :: (62, vs 15) :: (61, vs 14) :: (60, vs 13) :: (59, vs 12) :: (58, vs 11) :: (57, vs 10) :: (56, vs 9) :: (55, vs 8) :: (54, vs 7) :: (53, vs 6) :: (52, vs 5) :: (51, vs 4) :: (50, vs 3) :: (49, vs 2) :: (48, vs 1) :: (47, vs 0) :: _) ⟨fun _ _ _ _ h => h, fun _ _ _ _ h => h, fun _ _ _ _ h => h, fun _ _ _ _ h => h, fun _ _ _ _ h => h, fun _ _ _ _ h => h, fun _ _ _ _ h => h, fun _ _ _ _ h => h, fun _ _ _ _ h => h, fun _ _ _ _ h => h, fun _ _ _ _ h => h, fun _ _ _ _ h => h, fun _ _ _ _ h => h, fun _ _ _ _ h => h, fun _ _ _ _ h => h, fun _ _ _ _ h => h, fun _ _ _ _ h => h, fun _ _ _ _ h => h, fun _ _ _ _ h => h, fun _ _ _ _ h => h, fun _ _ _ _ h => h, fun _ _ _ _ h => h, fun _ _ _ _ h => h, fun _ _ _ _ h => h, trivial⟩ (by kernel_rfl) (fun _ => rfl) ⟨?_, ?_, ?_, ?_, ?_, ?_, ?_, ?_, ?_, ?_, ?_, ?_, ?_, ?_, ?_, ?_, ?_, ?_, ?_, ?_, ?_, ?_, ?_, ?_, trivial⟩ ?_
        ·
          intro vs W hE hp
          exact dr_plain rfl (dr_ex (v := .int .i64 (j : Int)) (Ex.move rfl rfl) (Bw.refl _) rfl)
        ·
          intro vs W hE hp
          exact dr_plain rfl (dr_ex (v := v246) (Ex.move rfl rfl) (Bw.refl _) rfl)
        ·
          intro vs W hE hp
          have p1 := hp 1 (by kernel_rfl)
          simp only [List.getD_cons_zero, List.getD_cons_succ] at p1
          exact dr_plain rfl (dr_ex (v := .int .i64 ((normAt lb).length : Int)) (Ex.lenSl (l := normAt lb) ⟨_, under22⟩ rfl p1 ((hS.ext hE).mem (.head _))) (Bw.refl _) rfl)
        ·
          intro vs W hE hp
          have p0 := hp 0 (by kernel_rfl)
          simp only [List.getD_cons_zero, List.getD_cons_succ] at p0
          have p2 := hp 2 (by kernel_rfl)
          simp only [List.getD_cons_zero, List.getD_cons_succ] at p2
          exact dr_plain rfl (dr_ex (v := .bool (decide ((j : Int) = ((normAt lb).length : Int)))) (Ex.eq rfl p0 p2) (Bw.refl _) rfl)
        ·
          intro vs W hE hp
          have p3 := hp 3 (by kernel_rfl)
          simp only [List.getD_cons_zero, List.getD_cons_succ] at p3
          exact dr_plain rfl (dr_ex (v := .bool (decide ((j : Int) = ((normAt lb).length : Int)))) (Ex.move rfl p3) (Bw.refl _) rfl)
        ·
          intro vs W hE hp
          have p4 := hp 4 (by kernel_rfl)
          simp only [List.getD_cons_zero, List.getD_cons_succ] at p4
          exact dr_off rfl rfl rfl p4 (congrArg Value.bool hg311) rfl rfl
        ·
          intro vs W hE hp
          have p4 := hp 4 (by kernel_rfl)
          simp only [List.getD_cons_zero, List.getD_cons_succ] at p4
          exact dr_off rfl rfl rfl p4 (congrArg Value.bool hg311) rfl rfl
        ·
          intro vs W hE hp
          have p4 := hp 4 (by kernel_rfl)
          simp only [List.getD_cons_zero, List.getD_cons_succ] at p4
          have p6 := hp 6 (by kernel_rfl)
          simp only [List.getD_cons_zero, List.getD_cons_succ] at p6
          exact dr_off rfl rfl rfl p4 (congrArg Value.bool hg311) rfl rfl
        ·
          intro vs W hE hp
          have p4 := hp 4 (by kernel_rfl)
          simp only [List.getD_cons_zero, List.getD_cons_succ] at p4
          have p5 := hp 5 (by kernel_rfl)
          simp only [List.getD_cons_zero, List.getD_cons_succ] at p5
          have p7 := hp 7 (by kernel_rfl)
          simp only [List.getD_cons_zero, List.getD_cons_succ] at p7
          exact dr_off rfl rfl rfl p4 (congrArg Value.bool hg311) rfl rfl
        ·
          intro vs W hE hp
          have p4 := hp 4 (by kernel_rfl)
          simp only [List.getD_cons_zero, List.getD_cons_succ] at p4
          have p8 := hp 8 (by kernel_rfl)
          simp only [List.getD_cons_zero, List.getD_cons_succ] at p8
          exact dr_off rfl rfl rfl p4 (congrArg Value.bool hg311) rfl rfl
        ·
          intro vs W hE hp
          have p9 := hp 9 (by kernel_rfl)
          simp only [List.getD_cons_zero, List.getD_cons_succ] at p9
          exact dr_offU rfl rfl rfl p9 rfl
        ·
          intro vs W hE hp
          have p9 := hp 9 (by kernel_rfl)
          simp only [List.getD_cons_zero, List.getD_cons_succ] at p9
          exact dr_offU rfl rfl rfl p9 rfl
        ·
          intro vs W hE hp
          have p9 := hp 9 (by kernel_rfl)
          simp only [List.getD_cons_zero, List.getD_cons_succ] at p9
          have p10 := hp 10 (by kernel_rfl)
          simp only [List.getD_cons_zero, List.getD_cons_succ] at p10
          have p11 := hp 11 (by kernel_rfl)
          simp only [List.getD_cons_zero, List.getD_cons_succ] at p11
          exact dr_offU rfl rfl rfl p9 rfl
        ·
          intro vs W hE hp
          have p9 := hp 9 (by kernel_rfl)
          simp only [List.getD_cons_zero, List.getD_cons_succ] at p9
          have p12 := hp 12 (by kernel_rfl)
          simp only [List.getD_cons_zero, List.getD_cons_succ] at p12
          exact dr_offU rfl rfl rfl p9 rfl
        ·
          intro vs W hE hp
          have p9 := hp 9 (by kernel_rfl)
          simp only [List.getD_cons_zero, List.getD_cons_succ] at p9
          have p13 := hp 13 (by kernel_rfl)
          simp only [List.getD_cons_zero, List.getD_cons_succ] at p13
          exact dr_offU rfl rfl rfl p9 rfl
        ·
          intro vs W hE hp
          have p9 := hp 9 (by kernel_rfl)
          simp only [List.getD_cons_zero, List.getD_cons_succ] at p9
          exact dr_offU rfl rfl rfl p9 rfl
        ·
          intro vs W hE hp
          have p9 := hp 9 (by kernel_rfl)
          simp only [List.getD_cons_zero, List.getD_cons_succ] at p9
          exact dr_offU rfl rfl rfl p9 rfl
        ·
          intro vs W hE hp
          have p9 := hp 9 (by kernel_rfl)
          simp only [List.getD_cons_zero, List.getD_cons_succ] at p9
          have p15 := hp 15 (by kernel_rfl)
          simp only [List.getD_cons_zero, List.getD_cons_succ] at p15
          have p16 := hp 16 (by kernel_rfl)
          simp only [List.getD_cons_zero, List.getD_cons_succ] at p16
          exact dr_offU rfl rfl rfl p9 rfl
        ·
          intro vs W hE hp
          have p9 := hp 9 (by kernel_rfl)
          simp only [List.getD_cons_zero, List.getD_cons_succ] at p9
          have p17 := hp 17 (by kernel_rfl)
          simp only [List.getD_cons_zero, List.getD_cons_succ] at p17
          exact dr_offU rfl rfl rfl p9 rfl
        ·
          intro vs W hE hp
          have p9 := hp 9 (by kernel_rfl)
          simp only [List.getD_cons_zero, List.getD_cons_succ] at p9
          have p18 := hp 18 (by kernel_rfl)
          simp only [List.getD_cons_zero, List.getD_cons_succ] at p18
          exact dr_offU rfl rfl rfl p9 rfl
        ·
          intro vs W hE hp
          have p9 := hp 9 (by kernel_rfl)
          simp only [List.getD_cons_zero, List.getD_cons_succ] at p9
          have p14 := hp 14 (by kernel_rfl)
          simp only [List.getD_cons_zero, List.getD_cons_succ] at p14
          have p19 := hp 19 (by kernel_rfl)
          simp only [List.getD_cons_zero, List.getD_cons_succ] at p19
          exact dr_offU rfl rfl rfl p9 rfl
        ·
          intro vs W hE hp
          have p4 := hp 4 (by kernel_rfl)
          simp only [List.getD_cons_zero, List.getD_cons_succ] at p4
          have p9 := hp 9 (by kernel_rfl)
          simp only [List.getD_cons_zero, List.getD_cons_succ] at p9
          have p20 := hp 20 (by kernel_rfl)
          simp only [List.getD_cons_zero, List.getD_cons_succ] at p20
          exact dr_off rfl rfl rfl p4 (congrArg Value.bool hg311) rfl rfl
        ·
          intro vs W hE hp
          have p4 := hp 4 (by kernel_rfl)
          simp only [List.getD_cons_zero, List.getD_cons_succ] at p4
          have p21 := hp 21 (by kernel_rfl)
          simp only [List.getD_cons_zero, List.getD_cons_succ] at p21
          exact dr_plain rfl (dr_ex (v := .bool true) (Ex.pickT rfl (p4.trans (congrArg Value.bool hg311)) rfl) (Bw.refl _) rfl)
        ·
          intro vs W hE hp
          have p22 := hp 22 (by kernel_rfl)
          simp only [List.getD_cons_zero, List.getD_cons_succ] at p22
          exact dr_plain rfl (dr_ex (v := .bool true) (Ex.assign rfl p22) (Bw.refl _) rfl)
        intro vs W312 hE hv
        have hS0 := hS; replace hS := hS.ext hE
        have p0 : vs 0 = .int .i64 (j : Int) := hv 0 (by decide)
        have p1 : vs 1 = v246 := hv 1 (by decide)
        have p2 : vs 2 = .int .i64 ((normAt lb).length : Int) := hv 2 (by decide)
        have p3 : vs 3 = .bool (decide ((j : Int) = ((normAt lb).length : Int))) := hv 3 (by decide)
        have p4 : vs 4 = .bool (decide ((j : Int) = ((normAt lb).length : Int))) := hv 4 (by decide)
        have p22 : vs 22 = .bool true := hv 22 (by decide)
        have p23 : vs 23 = .bool true := hv 23 (by decide)
        refine WL.keep (k := [(47, .int .i64 (j : Int)), (48, v246), (49, .int .i64 ((normAt lb).length : Int)), (50, .bool (decide ((j : Int) = ((normAt lb).length : Int)))), (51, .bool (decide ((j : Int) = ((normAt lb).length : Int)))), (69, .bool true), (46, .bool true)]) ⟨p0, p1, p2, p3, p4, p22, p23, trivial⟩ ?_
        refine WL.nil ?_
        refine then_normal ?_
        refine WP.condT rfl ?_
        refine WP.seq ?_
        refine WP.region ?_
        refine WL.op (v := vo) rfl rfl rfl (Ex.move rfl rfl) ?_
        refine WL.op (v := v243) rfl rfl rfl (Ex.move rfl rfl) ?_
        refine WL.op (v := .int .i64 (i : Int)) rfl rfl rfl (Ex.move rfl rfl) ?_
        obtain ⟨b313, po314, x315, hx316, hi317, hS⟩ := hS.elem (α := At) (k := i) (.tail _ (.head _)) under22 tySz71 (by omega)
        refine WL.op (v := .pointer (some ⟨b313, po314, none⟩)) rfl rfl rfl (Ex.indexC hi317 rfl rfl rfl) ?_
        refine WL.op (v := .agg x315.enc) rfl rfl rfl (Ex.loadA tyAgg71 rfl rfl (Reads.sub (cs := x315.enc.toList) (hS.get 0 rfl) 0 (ds := x315.enc.toList) rfl) rfl) ?_
        refine WL.buildSlice (ps := [(0, .agg x315.enc)]) (C := x315.enc) (E := 71) rfl (fun _ => by kernel_rfl) hS rfl rfl rfl rfl (fun b318 W319 hS => ?_)
        have hNb318 : w.heap.size ≤ b318 := hS.ge 0 rfl
        replace hS := hS.slice (α := At) (xs := [x315]) (cap := 1) rfl (by simp)
        refine WL.append (α := At) (a := x315) under22 infT71 rfl (by decide) (by decide) [] hO hS (hS.mem (.head _)) (by omega) rfl rfl rfl rfl rfl rfl (fun vo320 eo321 W322 hO323 hS => ?_)
        refine WL.op (v := vo320) rfl rfl rfl (Ex.assign rfl rfl) ?_
        refine WL.nil ?_
        refine then_normal ?_
        refine WP.region ?_
        refine WL.op (v := .int .i64 (i : Int)) rfl rfl rfl (Ex.move rfl rfl) ?_
        refine WL.op (v := .int .i64 ((i + 1 : Nat) : Int)) rfl rfl rfl (Ex.add rfl rfl rfl (wrap_succ (by omega))) ?_
        refine WL.op (v := .int .i64 ((i + 1 : Nat) : Int)) rfl rfl rfl (Ex.assign rfl rfl) ?_
        refine WL.nil ?_
        refine inBlock_normal ?_
        refine inBlock_normal ?_
        refine then_normal ?_
        exact ⟨_, ⟨i + 1, j, vo320, eo321, d ++ [x315], _, fr_keep ⟨rfl, rfl, rfl, rfl, rfl, rfl, trivial⟩, rfl, hS.drop 0 2, (by omega), (by omega), hO323, (by rw [hd, List.append_assoc]; congr 1; exact merge_l0 hx316 (by omega)), (by simp only [List.length_append, List.length_cons, List.length_nil]; omega)⟩, by simp only [id]; omega⟩
      ·
        have hg311' : ¬ ((j : Int) = ((normAt lb).length : Int)) := by simpa using hg311
        refine WP.drawL 24 [(fun u_ _ => u_ = .int .i64 (j : Int)), (fun u_ _ => u_ = v246), (fun u_ _ => u_ = .int .i64 ((normAt lb).length : Int)), (fun u_ _ => u_ = .bool (decide ((j : Int) = ((normAt lb).length : Int)))), (fun u_ _ => u_ = .bool (decide ((j : Int) = ((normAt lb).length : Int)))), (fun u_ _ => u_ = .int .i64 (i : Int)), (fun u_ _ => u_ = v243), (fun u_ _ => u_ = .int .i64 ((normAt la).length : Int)), (fun u_ _ => u_ = .bool (decide ((i : Int) < ((normAt la).length : Int)))), (fun u_ _ => u_ = .bool (decide ((i : Int) < ((normAt la).length : Int)))), (fun u_ _ => u_ = undef), (fun u_ _ => u_ = undef), (fun u_ _ => u_ = undef), (fun u_ _ => u_ = undef), (fun u_ _ => u_ = undef), (fun u_ _ => u_ = undef), (fun u_ _ => u_ = undef), (fun u_ _ => u_ = undef), (fun u_ _ => u_ = undef), (fun u_ _ => u_ = undef), (fun u_ _ => u_ = undef), (fun u_ _ => u_ = .bool false), (fun u_ _ => u_ = .bool false), (fun u_ _ => u_ = .bool false)] (fun vs => (46, vs 23) :: (69, vs 22) :: (68, vs 21) :: (67, vs 20) :: (66, vs 19) :: (65, vs 18) :: (64, vs 17) :: (63, vs 16) :: (62, vs 15) :: (61, vs 14) :: (60, vs 13) :: (59, vs 12) :: (58, vs 11) :: (57, vs 10) :: (56, vs 9) :: (55, vs 8) :: (54, vs 7) :: (53, vs 6) :: (52, vs 5) :: (51, vs 4) :: (50, vs 3) :: (49, vs 2) :: (48, vs 1) :: (47, vs 0) :: _) ⟨fun _ _ _ _ h => h, fun _ _ _ _ h => h, fun _ _ _ _ h => h, fun _ _ _ _ h => h, fun _ _ _ _ h => h, fun _ _ _ _ h => h, fun _ _ _ _ h => h, fun _ _ _ _ h => h, fun _ _ _ _ h => h, fun _ _ _ _ h => h, fun _ _ _ _ h => h, fun _ _ _ _ h => h, fun _ _ _ _ h => h, fun _ _ _ _ h => h, fun _ _ _ _ h => h, fun _ _ _ _ h => h, fun _ _ _ _ h => h, fun _ _ _ _ h => h, fun _ _ _ _ h => h, fun _ _ _ _ h => h, fun _ _ _ _ h => h, fun _ _ _ _ h => h, fun _ _ _ _ h => h, fun _ _ _ _ h => h, trivial⟩ (by kernel_rfl) (fun _ => rfl) ⟨?_, ?_, ?_, ?_, ?_, ?_, ?_, ?_, ?_, ?_, ?_, ?_, ?_, ?_, ?_, ?_, ?_, ?_, ?_, ?_, ?_, ?_, ?_, ?_, trivial⟩ ?_
        ·
          intro vs W hE hp
          exact dr_plain rfl (dr_ex (v := .int .i64 (j : Int)) (Ex.move rfl rfl) (Bw.refl _) rfl)
        ·
          intro vs W hE hp
          exact dr_plain rfl (dr_ex (v := v246) (Ex.move rfl rfl) (Bw.refl _) rfl)
        ·
          intro vs W hE hp
          have p1 := hp 1 (by kernel_rfl)
          simp only [List.getD_cons_zero, List.getD_cons_succ] at p1
          exact dr_plain rfl (dr_ex (v := .int .i64 ((normAt lb).length : Int)) (Ex.lenSl (l := normAt lb) ⟨_, under22⟩ rfl p1 ((hS.ext hE).mem (.head _))) (Bw.refl _) rfl)
        ·
          intro vs W hE hp
          have p0 := hp 0 (by kernel_rfl)
          simp only [List.getD_cons_zero, List.getD_cons_succ] at p0
          have p2 := hp 2 (by kernel_rfl)
          simp only [List.getD_cons_zero, List.getD_cons_succ] at p2
          exact dr_plain rfl (dr_ex (v := .bool (decide ((j : Int) = ((normAt lb).length : Int)))) (Ex.eq rfl p0 p2) (Bw.refl _) rfl)
        ·
          intro vs W hE hp
          have p3 := hp 3 (by kernel_rfl)
          simp only [List.getD_cons_zero, List.getD_cons_succ] at p3
          exact dr_plain rfl (dr_ex (v := .bool (decide ((j : Int) = ((normAt lb).length : Int)))) (Ex.move rfl p3) (Bw.refl _) rfl)
        ·
          intro vs W hE hp
          have p4 := hp 4 (by kernel_rfl)
          simp only [List.getD_cons_zero, List.getD_cons_succ] at p4
          exact dr_on rfl rfl rfl p4 (congrArg Value.bool hg311) (dr_ex (v := .int .i64 (i : Int)) (Ex.move rfl rfl) (Bw.refl _) rfl)
        ·
          intro vs W hE hp
          have p4 := hp 4 (by kernel_rfl)
          simp only [List.getD_cons_zero, List.getD_cons_succ] at p4
          exact dr_on rfl rfl rfl p4 (congrArg Value.bool hg311) (dr_ex (v := v243) (Ex.move rfl rfl) (Bw.refl _) rfl)
        ·
          intro vs W hE hp
          have p4 := hp 4 (by kernel_rfl)
          simp only [List.getD_cons_zero, List.getD_cons_succ] at p4
          have p6 := hp 6 (by kernel_rfl)
          simp only [List.getD_cons_zero, List.getD_cons_succ] at p6
          exact dr_on rfl rfl rfl p4 (congrArg Value.bool hg311) (dr_ex (v := .int .i64 ((normAt la).length : Int)) (Ex.lenSl (l := normAt la) ⟨_, under22⟩ rfl p6 ((hS.ext hE).mem (.tail _ (.head _)))) (Bw.refl _) rfl)
        ·
          intro vs W hE hp
          have p4 := hp 4 (by kernel_rfl)
          simp only [List.getD_cons_zero, List.getD_cons_succ] at p4
          have p5 := hp 5 (by kernel_rfl)
          simp only [List.getD_cons_zero, List.getD_cons_succ] at p5
          have p7 := hp 7 (by kernel_rfl)
          simp only [List.getD_cons_zero, List.getD_cons_succ] at p7
          exact dr_on rfl rfl rfl p4 (congrArg Value.bool hg311) (dr_ex (v := .bool (decide ((i : Int) < ((normAt la).length : Int)))) (Ex.lt rfl p5 p7) (Bw.refl _) rfl)
        ·
          intro vs W hE hp
          have p4 := hp 4 (by kernel_rfl)
          simp only [List.getD_cons_zero, List.getD_cons_succ] at p4
          have p8 := hp 8 (by kernel_rfl)
          simp only [List.getD_cons_zero, List.getD_cons_succ] at p8
          exact dr_on rfl rfl rfl p4 (congrArg Value.bool hg311) (dr_ex (v := .bool (decide ((i : Int) < ((normAt la).length : Int)))) (Ex.move rfl p8) (Bw.refl _) rfl)
        ·
          intro vs W hE hp
          have p9 := hp 9 (by kernel_rfl)
          simp only [List.getD_cons_zero, List.getD_cons_succ] at p9
          exact dr_off rfl rfl rfl p9 (congrArg Value.bool hg251) rfl rfl
        ·
          intro vs W hE hp
          have p9 := hp 9 (by kernel_rfl)
          simp only [List.getD_cons_zero, List.getD_cons_succ] at p9
          exact dr_off rfl rfl rfl p9 (congrArg Value.bool hg251) rfl rfl
        ·
          intro vs W hE hp
          have p9 := hp 9 (by kernel_rfl)
          simp only [List.getD_cons_zero, List.getD_cons_succ] at p9
          have p10 := hp 10 (by kernel_rfl)
          simp only [List.getD_cons_zero, List.getD_cons_succ] at p10
          have p11 := hp 11 (by kernel_rfl)
          simp only [List.getD_cons_zero, List.getD_cons_succ] at p11
          exact dr_off rfl rfl rfl p9 (congrArg Value.bool hg251) rfl rfl
        ·
          intro vs W hE hp
          have p9 := hp 9 (by kernel_rfl)
          simp only [List.getD_cons_zero, List.getD_cons_succ] at p9
          have p12 := hp 12 (by kernel_rfl)
          simp only [List.getD_cons_zero, List.getD_cons_succ] at p12
          exact dr_off rfl rfl rfl p9 (congrArg Value.bool hg251) rfl rfl
        ·
          intro vs W hE hp
          have p9 := hp 9 (by kernel_rfl)
          simp only [List.getD_cons_zero, List.getD_cons_succ] at p9
          have p13 := hp 13 (by kernel_rfl)
          simp only [List.getD_cons_zero, List.getD_cons_succ] at p13
          exact dr_off rfl rfl rfl p9 (congrArg Value.bool hg251) rfl rfl
        ·
          intro vs W hE hp
          have p9 := hp 9 (by kernel_rfl)
          simp only [List.getD_cons_zero, List.getD_cons_succ] at p9
          exact dr_off rfl rfl rfl p9 (congrArg Value.bool hg251) rfl rfl
        ·
          intro vs W hE hp
          have p9 := hp 9 (by kernel_rfl)
          simp only [List.getD_cons_zero, List.getD_cons_succ] at p9
          exact dr_off rfl rfl rfl p9 (congrArg Value.bool hg251) rfl rfl
        ·
          intro vs W hE hp
          have p9 := hp 9 (by kernel_rfl)
          simp only [List.getD_cons_zero, List.getD_cons_succ] at p9
          have p15 := hp 15 (by kernel_rfl)
          simp only [List.getD_cons_zero, List.getD_cons_succ] at p15
          have p16 := hp 16 (by kernel_rfl)
          simp only [List.getD_cons_zero, List.getD_cons_succ] at p16
          exact dr_off rfl rfl rfl p9 (congrArg Value.bool hg251) rfl rfl
        ·
          intro vs W hE hp
          have p9 := hp 9 (by kernel_rfl)
          simp only [List.getD_cons_zero, List.getD_cons_succ] at p9
          have p17 := hp 17 (by kernel_rfl)
          simp only [List.getD_cons_zero, List.getD_cons_succ] at p17
          exact dr_off rfl rfl rfl p9 (congrArg Value.bool hg251) rfl rfl
        ·
          intro vs W hE hp
          have p9 := hp 9 (by kernel_rfl)
          simp only [List.getD_cons_zero, List.getD_cons_succ] at p9
          have p18 := hp 18 (by kernel_rfl)
          simp only [List.getD_cons_zero, List.getD_cons_succ] at p18
          exact dr_off rfl rfl rfl p9 (congrArg Value.bool hg251) rfl rfl
        ·
          intro vs W hE hp
          have p9 := hp 9 (by kernel_rfl)
          simp only [List.getD_cons_zero, List.getD_cons_succ] at p9
          have p14 := hp 14 (by kernel_rfl)
          simp only [List.getD_cons_zero, List.getD_cons_succ] at p14
          have p19 := hp 19 (by kernel_rfl)
          simp only [List.getD_cons_zero, List.getD_cons_succ] at p19
          exact dr_off rfl rfl rfl p9 (congrArg Value.bool hg251) rfl rfl
        ·
          intro vs W hE hp
          have p4 := hp 4 (by kernel_rfl)
          simp only [List.getD_cons_zero, List.getD_cons_succ] at p4
          have p9 := hp 9 (by kernel_rfl)
          simp only [List.getD_cons_zero, List.getD_cons_succ] at p9
          have p20 := hp 20 (by kernel_rfl)
          simp only [List.getD_cons_zero, List.getD_cons_succ] at p20
          exact dr_on rfl rfl rfl p4 (congrArg Value.bool hg311) (dr_ex (v := .bool false) (Ex.pickF rfl (p9.trans (congrArg Value.bool hg251)) rfl) (Bw.refl _) rfl)
        ·
          intro vs W hE hp
          have p4 := hp 4 (by kernel_rfl)
          simp only [List.getD_cons_zero, List.getD_cons_succ] at p4
          have p21 := hp 21 (by kernel_rfl)
          simp only [List.getD_cons_zero, List.getD_cons_succ] at p21
          exact dr_plain rfl (dr_ex (v := .bool false) (Ex.pickF rfl (p4.trans (congrArg Value.bool hg311)) p21) (Bw.refl _) rfl)
        ·
          intro vs W hE hp
          have p22 := hp 22 (by kernel_rfl)
          simp only [List.getD_cons_zero, List.getD_cons_succ] at p22
          exact dr_plain rfl (dr_ex (v := .bool false) (Ex.assign rfl p22) (Bw.refl _) rfl)
        intro vs W324 hE hv
        have hS0 := hS; replace hS := hS.ext hE
        have p0 : vs 0 = .int .i64 (j : Int) := hv 0 (by decide)
        have p1 : vs 1 = v246 := hv 1 (by decide)
        have p2 : vs 2 = .int .i64 ((normAt lb).length : Int) := hv 2 (by decide)
        have p3 : vs 3 = .bool (decide ((j : Int) = ((normAt lb).length : Int))) := hv 3 (by decide)
        have p4 : vs 4 = .bool (decide ((j : Int) = ((normAt lb).length : Int))) := hv 4 (by decide)
        have p5 : vs 5 = .int .i64 (i : Int) := hv 5 (by decide)
        have p6 : vs 6 = v243 := hv 6 (by decide)
        have p7 : vs 7 = .int .i64 ((normAt la).length : Int) := hv 7 (by decide)
        have p8 : vs 8 = .bool (decide ((i : Int) < ((normAt la).length : Int))) := hv 8 (by decide)
        have p9 : vs 9 = .bool (decide ((i : Int) < ((normAt la).length : Int))) := hv 9 (by decide)
        have p21 : vs 21 = .bool false := hv 21 (by decide)
        have p22 : vs 22 = .bool false := hv 22 (by decide)
        have p23 : vs 23 = .bool false := hv 23 (by decide)
        refine WL.keep (k := [(47, .int .i64 (j : Int)), (48, v246), (49, .int .i64 ((normAt lb).length : Int)), (50, .bool (decide ((j : Int) = ((normAt lb).length : Int)))), (51, .bool (decide ((j : Int) = ((normAt lb).length : Int)))), (52, .int .i64 (i : Int)), (53, v243), (54, .int .i64 ((normAt la).length : Int)), (55, .bool (decide ((i : Int) < ((normAt la).length : Int)))), (56, .bool (decide ((i : Int) < ((normAt la).length : Int)))), (68, .bool false), (69, .bool false), (46, .bool false)]) ⟨p0, p1, p2, p3, p4, p5, p6, p7, p8, p9, p21, p22, p23, trivial⟩ ?_
        refine WL.nil ?_
        refine then_normal ?_
        refine WP.condF rfl ?_
        refine WP.seq ?_
        rcases Bool.eq_false_or_eq_true (decide ((i : Int) = ((normAt la).length : Int))) with hg325 | hg325
        ·
          have hg325' : (i : Int) = ((normAt la).length : Int) := by simpa using hg325
          refine WP.drawL 18 [(fun u_ _ => u_ = .int .i64 (i : Int)), (fun u_ _ => u_ = v243), (fun u_ _ => u_ = .int .i64 ((normAt la).length : Int)), (fun u_ _ => u_ = .bool (decide ((i : Int) = ((normAt la).length : Int)))), (fun u_ _ => u_ = .bool (decide ((i : Int) = ((normAt la).length : Int)))), (fun u_ _ => u_ = undef), (fun u_ _ => u_ = undef), (fun u_ _ => u_ = undef), (fun u_ _ => u_ = undef), (fun u_ _ => u_ = undef), (fun u_ _ => u_ = undef), (fun u_ _ => u_ = undef), (fun u_ _ => u_ = undef), (fun u_ _ => u_ = undef), (fun u_ _ => u_ = undef), (fun u_ _ => u_ = undef), (fun u_ _ => u_ = .bool true), (fun u_ _ => u_ = .bool true)] (fun vs => (79, vs 17) :: (96, vs 16) :: (95, vs 15) :: (94, vs 14) :: (93, vs 13) :: (92, vs 12) :: (91, vs 11) :: (90, vs 10) :: (89, vs 9) :: (88, vs 8) :: (87, vs 7) :: (86, vs 6) :: (85, vs 5) :: (84, vs 4) :: (83, vs 3) :: (82, vs 2) :: (81, vs 1) :: (80, vs 0) :: _) ⟨fun _ _ _ _ h => h, fun _ _ _ _ h => h, fun _ _ _ _ h => h, fun _ _ _ _ h => h, fun _ _ _ _ h => h, fun _ _ _ _ h => h, fun _ _ _ _ h => h, fun _ _ _ _ h => h, fun _ _ _ _ h => h, fun _ _ _ _ h => h, fun _ _ _ _ h => h, fun _ _ _ _ h => h, fun _ _ _ _ h => h, fun _ _ _ _ h => h, fun _ _ _ _ h => h, fun _ _ _ _ h => h, fun _ _ _ _ h => h, fun _ _ _ _ h => h, trivial⟩ (by kernel_rfl) (fun _ => rfl) ⟨?_, ?_, ?_, ?_, ?_, ?_, ?_, ?_, ?_, ?_, ?_, ?_, ?_, ?_, ?_, ?_, ?_, ?_, trivial⟩ ?_
          ·
            intro vs W hE hp
            exact dr_plain rfl (dr_ex (v := .int .i64 (i : Int)) (Ex.move rfl rfl) (Bw.refl _) rfl)
          ·
            intro vs W hE hp
            exact dr_plain rfl (dr_ex (v := v243) (Ex.move rfl rfl) (Bw.refl _) rfl)
          ·
            intro vs W hE hp
            have p1 := hp 1 (by kernel_rfl)
            simp only [List.getD_cons_zero, List.getD_cons_succ] at p1
            exact dr_plain rfl (dr_ex (v := .int .i64 ((normAt la).length : Int)) (Ex.lenSl (l := normAt la) ⟨_, under22⟩ rfl p1 ((hS.ext hE).mem (.tail _ (.head _)))) (Bw.refl _) rfl)
          ·
            intro vs W hE hp
            have p0 := hp 0 (by kernel_rfl)
            simp only [List.getD_cons_zero, List.getD_cons_succ] at p0
            have p2 := hp 2 (by kernel_rfl)
            simp only [List.getD_cons_zero, List.getD_cons_succ] at p2
            exact dr_plain rfl (dr_ex (v := .bool (decide ((i : Int) = ((normAt la).length : Int)))) (Ex.eq rfl p0 p2) (Bw.refl _) rfl)
          ·
            intro vs W hE hp
            have p3 := hp 3 (by kernel_rfl)
            simp only [List.getD_cons_zero, List.getD_cons_succ] at p3
            exact dr_plain rfl (dr_ex (v := .bool (decide ((i : Int) = ((normAt la).length : Int)))) (Ex.move rfl p3) (Bw.refl _) rfl)
          ·
            intro vs W hE hp
            have p4 := hp 4 (by kernel_rfl)
            simp only [List.getD_cons_zero, List.getD_cons_succ] at p4
            exact dr_off rfl rfl rfl p4 (congrArg Value.bool hg325) rfl rfl
          ·
            intro vs W hE hp
            have p4 := hp 4 (by kernel_rfl)
            simp only [List.getD_cons_zero, List.getD_cons_succ] at p4
            exact dr_off rfl rfl rfl p4 (congrArg Value.bool hg325) rfl rfl
          ·
            intro vs W hE hp
            have p4 := hp 4 (by kernel_rfl)
            simp only [List.getD_cons_zero, List.getD_cons_succ] at p4
            have p5 := hp 5 (by kernel_rfl)
            simp only [List.getD_cons_zero, List.getD_cons_succ] at p5
            have p6 := hp 6 (by kernel_rfl)
            simp only [List.getD_cons_zero, List.getD_cons_succ] at p6
            exact dr_off rfl rfl rfl p4 (congrArg Value.bool hg325) rfl rfl
          ·
            intro vs W hE hp
            have p4 := hp 4 (by kernel_rfl)
            simp only [List.getD_cons_zero, List.getD_cons_succ] at p4
            have p7 := hp 7 (by kernel_rfl)
            simp only [List.getD_cons_zero, List.getD_cons_succ] at p7
            exact dr_off rfl rfl rfl p4 (congrArg Value.bool hg325) rfl rfl
          ·
            intro vs W hE hp
            have p4 := hp 4 (by kernel_rfl)
            simp only [List.getD_cons_zero, List.getD_cons_succ] at p4
            have p8 := hp 8 (by kernel_rfl)
            simp only [List.getD_cons_zero, List.getD_cons_succ] at p8
            exact dr_off rfl rfl rfl p4 (congrArg Value.bool hg325) rfl rfl
          ·
            intro vs W hE hp
            have p4 := hp 4 (by kernel_rfl)
            simp only [List.getD_cons_zero, List.getD_cons_succ] at p4
            exact dr_off rfl rfl rfl p4 (congrArg Value.bool hg325) rfl rfl
          ·
            intro vs W hE hp
            have p4 := hp 4 (by kernel_rfl)
            simp only [List.getD_cons_zero, List.getD_cons_succ] at p4
            exact dr_off rfl rfl rfl p4 (congrArg Value.bool hg325) rfl rfl
          ·
            intro vs W hE hp
            have p4 := hp 4 (by kernel_rfl)
            simp only [List.getD_cons_zero, List.getD_cons_succ] at p4
            have p10 := hp 10 (by kernel_rfl)
            simp only [List.getD_cons_zero, List.getD_cons_succ] at p10
            have p11 := hp 11 (by kernel_rfl)
            simp only [List.getD_cons_zero, List.getD_cons_succ] at p11
            exact dr_off rfl rfl rfl p4 (congrArg Value.bool hg325) rfl rfl
          ·
            intro vs W hE hp
            have p4 := hp 4 (by kernel_rfl)
            simp only [List.getD_cons_zero, List.getD_cons_succ] at p4
            have p12 := hp 12 (by kernel_rfl)
            simp only [List.getD_cons_zero, List.getD_cons_succ] at p12
            exact dr_off rfl rfl rfl p4 (congrArg Value.bool hg325) rfl rfl
          ·
            intro vs W hE hp
            have p4 := hp 4 (by kernel_rfl)
            simp only [List.getD_cons_zero, List.getD_cons_succ] at p4
            have p13 := hp 13 (by kernel_rfl)
            simp only [List.getD_cons_zero, List.getD_cons_succ] at p13
            exact dr_off rfl rfl rfl p4 (congrArg Value.bool hg325) rfl rfl
          ·
            intro vs W hE hp
            have p4 := hp 4 (by kernel_rfl)
            simp only [List.getD_cons_zero, List.getD_cons_succ] at p4
            have p9 := hp 9 (by kernel_rfl)
            simp only [List.getD_cons_zero, List.getD_cons_succ] at p9
            have p14 := hp 14 (by kernel_rfl)
            simp only [List.getD_cons_zero, List.getD_cons_succ] at p14
            exact dr_off rfl rfl rfl p4 (congrArg Value.bool hg325) rfl rfl
          ·
            intro vs W hE hp
            have p4 := hp 4 (by kernel_rfl)
            simp only [List.getD_cons_zero, List.getD_cons_succ] at p4
            have p15 := hp 15 (by kernel_rfl)
            simp only [List.getD_cons_zero, List.getD_cons_succ] at p15
            exact dr_plain rfl (dr_ex (v := .bool true) (Ex.pickT rfl (p4.trans (congrArg Value.bool hg325)) rfl) (Bw.refl _) rfl)
          ·
            intro vs W hE hp
            have p16 := hp 16 (by kernel_rfl)
            simp only [List.getD_cons_zero, List.getD_cons_succ] at p16
            exact dr_plain rfl (dr_ex (v := .bool true) (Ex.assign rfl p16) (Bw.refl _) rfl)
          intro vs W326 hE hv
          have hS0 := hS; replace hS := hS.ext hE
          have p0 : vs 0 = .int .i64 (i : Int) := hv 0 (by decide)
          have p1 : vs 1 = v243 := hv 1 (by decide)
          have p2 : vs 2 = .int .i64 ((normAt la).length : Int) := hv 2 (by decide)
          have p3 : vs 3 = .bool (decide ((i : Int) = ((normAt la).length : Int))) := hv 3 (by decide)
          have p4 : vs 4 = .bool (decide ((i : Int) = ((normAt la).length : Int))) := hv 4 (by decide)
          have p16 : vs 16 = .bool true := hv 16 (by decide)
          have p17 : vs 17 = .bool true := hv 17 (by decide)
          refine WL.keep (k := [(80, .int .i64 (i : Int)), (81, v243), (82, .int .i64 ((normAt la).length : Int)), (83, .bool (decide ((i : Int) = ((normAt la).length : Int)))), (84, .bool (decide ((i : Int) = ((normAt la).length : Int)))), (96, .bool true), (79, .bool true)]) ⟨p0, p1, p2, p3, p4, p16, p17, trivial⟩ ?_
          refine WL.nil ?_
          refine then_normal ?_
          refine WP.condT rfl ?_
          refine WP.seq ?_
          refine WP.region ?_
          refine WL.op (v := vo) rfl rfl rfl (Ex.move rfl rfl) ?_
          refine WL.op (v := v246) rfl rfl rfl (Ex.move rfl rfl) ?_
          refine WL.op (v := .int .i64 (j : Int)) rfl rfl rfl (Ex.move rfl rfl) ?_
          obtain ⟨b327, po328, x329, hx330, hi331, hS⟩ := hS.elem (α := At) (k := j) (.head _) under22 tySz71 (by omega)
          refine WL.op (v := .pointer (some ⟨b327, po328, none⟩)) rfl rfl rfl (Ex.indexC hi331 rfl rfl rfl) ?_
          refine WL.op (v := .agg x329.enc) rfl rfl rfl (Ex.loadA tyAgg71 rfl rfl (Reads.sub (cs := x329.enc.toList) (hS.get 0 rfl) 0 (ds := x329.enc.toList) rfl) rfl) ?_
          refine WL.buildSlice (ps := [(0, .agg x329.enc)]) (C := x329.enc) (E := 71) rfl (fun _ => by kernel_rfl) hS rfl rfl rfl rfl (fun b332 W333 hS => ?_)
          have hNb332 : w.heap.size ≤ b332 := hS.ge 0 rfl
          replace hS := hS.slice (α := At) (xs := [x329]) (cap := 1) rfl (by simp)
          refine WL.append (α := At) (a := x329) under22 infT71 rfl (by decide) (by decide) [] hO hS (hS.mem (.head _)) (by omega) rfl rfl rfl rfl rfl rfl (fun vo334 eo335 W336 hO337 hS => ?_)
          refine WL.op (v := vo334) rfl rfl rfl (Ex.assign rfl rfl) ?_
          refine WL.nil ?_
          refine then_normal ?_
          refine WP.region ?_
          refine WL.op (v := .int .i64 (j : Int)) rfl rfl rfl (Ex.move rfl rfl) ?_
          refine WL.op (v := .int .i64 ((j + 1 : Nat) : Int)) rfl rfl rfl (Ex.add rfl rfl rfl (wrap_succ (by omega))) ?_
          refine WL.op (v := .int .i64 ((j + 1 : Nat) : Int)) rfl rfl rfl (Ex.assign rfl rfl) ?_
          refine WL.nil ?_
          refine inBlock_normal ?_
          refine inBlock_normal ?_
          refine then_normal ?_
          exact ⟨_, ⟨i, j + 1, vo334, eo335, d ++ [x329], _, fr_keep ⟨rfl, rfl, rfl, rfl, rfl, rfl, trivial⟩, rfl, hS.drop 0 2, (by omega), (by omega), hO337, (by rw [hd, List.append_assoc]; congr 1; exact merge_r0 (by omega) hx330), (by simp only [List.length_append, List.length_cons, List.length_nil]; omega)⟩, by simp only [id]; omega⟩
        ·
          have hg325' : ¬ ((i : Int) = ((normAt la).length : Int)) := by simpa using hg325
          obtain ⟨b338, po339, x340, hx341, hi342, hS⟩ := hS.elem (α := At) (k := j) (.head _) under22 tySz71 (by omega)
          obtain ⟨b343, po344, x345, hx346, hi347, hS⟩ := hS.elem (α := At) (k := i) (.tail _ (.tail _ (.head _))) under22 tySz71 (by omega)
          refine WP.drawL 18 [(fun u_ _ => u_ = .int .i64 (i : Int)), (fun u_ _ => u_ = v243), (fun u_ _ => u_ = .int .i64 ((normAt la).length : Int)), (fun u_ _ => u_ = .bool (decide ((i : Int) = ((normAt la).length : Int)))), (fun u_ _ => u_ = .bool (decide ((i : Int) = ((normAt la).length : Int)))), (fun u_ _ => u_ = v246), (fun u_ _ => u_ = .int .i64 (j : Int)), (fun u_ _ => u_ = .pointer (some ⟨b338, po339, none⟩)), (fun u_ _ => u_ = .pointer (some ⟨b338, po339, none⟩)), (fun u_ _ => u_ = .agg x340.k.enc), (fun u_ _ => u_ = v243), (fun u_ _ => u_ = .int .i64 (i : Int)), (fun u_ _ => u_ = .pointer (some ⟨b343, po344, none⟩)), (fun u_ _ => u_ = .pointer (some ⟨b343, po344, none⟩)), (fun u_ _ => u_ = .agg x345.k.enc), (fun u_ _ => u_ = .bool (x340.k.lt x345.k)), (fun u_ _ => u_ = .bool (x340.k.lt x345.k)), (fun u_ _ => u_ = .bool (x340.k.lt x345.k))] (fun vs => (79, vs 17) :: (96, vs 16) :: (95, vs 15) :: (94, vs 14) :: (93, vs 13) :: (92, vs 12) :: (91, vs 11) :: (90, vs 10) :: (89, vs 9) :: (88, vs 8) :: (87, vs 7) :: (86, vs 6) :: (85, vs 5) :: (84, vs 4) :: (83, vs 3) :: (82, vs 2) :: (81, vs 1) :: (80, vs 0) :: _) ⟨fun _ _ _ _ h => h, fun _ _ _ _ h => h, fun _ _ _ _ h => h, fun _ _ _ _ h => h, fun _ _ _ _ h => h, fun _ _ _ _ h => h, fun _ _ _ _ h => h, fun _ _ _ _ h => h, fun _ _ _ _ h => h, fun _ _ _ _ h => h, fun _ _ _ _ h => h, fun _ _ _ _ h => h, fun _ _ _ _ h => h, fun _ _ _ _ h => h, fun _ _ _ _ h => h, fun _ _ _ _ h => h, fun _ _ _ _ h => h, fun _ _ _ _ h => h, trivial⟩ (by kernel_rfl) (fun _ => rfl) ⟨?_, ?_, ?_, ?_, ?_, ?_, ?_, ?_, ?_, ?_, ?_, ?_, ?_, ?_, ?_, ?_, ?_, ?_, trivial⟩ ?_
          ·
            intro vs W hE hp
            exact dr_plain rfl (dr_ex (v := .int .i64 (i : Int)) (Ex.move rfl rfl) (Bw.refl _) rfl)
          ·
            intro vs W hE hp
            exact dr_plain rfl (dr_ex (v := v243) (Ex.move rfl rfl) (Bw.refl _) rfl)
          ·
            intro vs W hE hp
            have p1 := hp 1 (by kernel_rfl)
            simp only [List.getD_cons_zero, List.getD_cons_succ] at p1
            exact dr_plain rfl (dr_ex (v := .int .i64 ((normAt la).length : Int)) (Ex.lenSl (l := normAt la) ⟨_, under22⟩ rfl p1 ((hS.ext hE).mem (.tail _ (.tail _ (.tail _ (.head _)))))) (Bw.refl _) rfl)
          ·
            intro vs W hE hp
            have p0 := hp 0 (by kernel_rfl)
            simp only [List.getD_cons_zero, List.getD_cons_succ] at p0
            have p2 := hp 2 (by kernel_rfl)
            simp only [List.getD_cons_zero, List.getD_cons_succ] at p2
            exact dr_plain rfl (dr_ex (v := .bool (decide ((i : Int) = ((normAt la).length : Int)))) (Ex.eq rfl p0 p2) (Bw.refl _) rfl)
          ·
            intro vs W hE hp
            have p3 := hp 3 (by kernel_rfl)
            simp only [List.getD_cons_zero, List.getD_cons_succ] at p3
            exact dr_plain rfl (dr_ex (v := .bool (decide ((i : Int) = ((normAt la).length : Int)))) (Ex.move rfl p3) (Bw.refl _) rfl)
          ·
            intro vs W hE hp
            have p4 := hp 4 (by kernel_rfl)
            simp only [List.getD_cons_zero, List.getD_cons_succ] at p4
            exact dr_on rfl rfl rfl p4 (congrArg Value.bool hg325) (dr_ex (v := v246) (Ex.move rfl rfl) (Bw.refl _) rfl)
          ·
            intro vs W hE hp
            have p4 := hp 4 (by kernel_rfl)
            simp only [List.getD_cons_zero, List.getD_cons_succ] at p4
            exact dr_on rfl rfl rfl p4 (congrArg Value.bool hg325) (dr_ex (v := .int .i64 (j : Int)) (Ex.move rfl rfl) (Bw.refl _) rfl)
          ·
            intro vs W hE hp
            have p4 := hp 4 (by kernel_rfl)
            simp only [List.getD_cons_zero, List.getD_cons_succ] at p4
            have p5 := hp 5 (by kernel_rfl)
            simp only [List.getD_cons_zero, List.getD_cons_succ] at p5
            have p6 := hp 6 (by kernel_rfl)
            simp only [List.getD_cons_zero, List.getD_cons_succ] at p6
            exact dr_on rfl rfl rfl p4 (congrArg Value.bool hg325) (dr_ex (v := .pointer (some ⟨b338, po339, none⟩)) (Ex.indexC hi342 rfl p5 p6) (Bw.refl _) rfl)
          ·
            intro vs W hE hp
            have p4 := hp 4 (by kernel_rfl)
            simp only [List.getD_cons_zero, List.getD_cons_succ] at p4
            have p7 := hp 7 (by kernel_rfl)
            simp only [List.getD_cons_zero, List.getD_cons_succ] at p7
            exact dr_on rfl rfl rfl p4 (congrArg Value.bool hg325) (dr_ex (v := .pointer (some ⟨b338, po339, none⟩)) (Ex.fieldAddr' fieldAt71_0 rfl p7) (Bw.refl _) rfl)
          ·
            intro vs W hE hp
            have p4 := hp 4 (by kernel_rfl)
            simp only [List.getD_cons_zero, List.getD_cons_succ] at p4
            have p8 := hp 8 (by kernel_rfl)
            simp only [List.getD_cons_zero, List.getD_cons_succ] at p8
            exact dr_on rfl rfl rfl p4 (congrArg Value.bool hg325) (dr_ex (v := .agg x340.k.enc) (Ex.loadA tyAgg61 rfl p8 (Reads.sub (cs := x340.enc.toList) ((hS.ext hE).get 1 rfl) 0 (ds := x340.k.enc.toList) rfl) rfl) (Bw.refl _) rfl)
          ·
            intro vs W hE hp
            have p4 := hp 4 (by kernel_rfl)
            simp only [List.getD_cons_zero, List.getD_cons_succ] at p4
            exact dr_on rfl rfl rfl p4 (congrArg Value.bool hg325) (dr_ex (v := v243) (Ex.move rfl rfl) (Bw.refl _) rfl)
          ·
            intro vs W hE hp
            have p4 := hp 4 (by kernel_rfl)
            simp only [List.getD_cons_zero, List.getD_cons_succ] at p4
            exact dr_on rfl rfl rfl p4 (congrArg Value.bool hg325) (dr_ex (v := .int .i64 (i : Int)) (Ex.move rfl rfl) (Bw.refl _) rfl)
          ·
            intro vs W hE hp
            have p4 := hp 4 (by kernel_rfl)
            simp only [List.getD_cons_zero, List.getD_cons_succ] at p4
            have p10 := hp 10 (by kernel_rfl)
            simp only [List.getD_cons_zero, List.getD_cons_succ] at p10
            have p11 := hp 11 (by kernel_rfl)
            simp only [List.getD_cons_zero, List.getD_cons_succ] at p11
            exact dr_on rfl rfl rfl p4 (congrArg Value.bool hg325) (dr_ex (v := .pointer (some ⟨b343, po344, none⟩)) (Ex.indexC hi347 rfl p10 p11) (Bw.refl _) rfl)
          ·
            intro vs W hE hp
            have p4 := hp 4 (by kernel_rfl)
            simp only [List.getD_cons_zero, List.getD_cons_succ] at p4
            have p12 := hp 12 (by kernel_rfl)
            simp only [List.getD_cons_zero, List.getD_cons_succ] at p12
            exact dr_on rfl rfl rfl p4 (congrArg Value.bool hg325) (dr_ex (v := .pointer (some ⟨b343, po344, none⟩)) (Ex.fieldAddr' fieldAt71_0 rfl p12) (Bw.refl _) rfl)
          ·
            intro vs W hE hp
            have p4 := hp 4 (by kernel_rfl)
            simp only [List.getD_cons_zero, List.getD_cons_succ] at p4
            have p13 := hp 13 (by kernel_rfl)
            simp only [List.getD_cons_zero, List.getD_cons_succ] at p13
            exact dr_on rfl rfl rfl p4 (congrArg Value.bool hg325) (dr_ex (v := .agg x345.k.enc) (Ex.loadA tyAgg61 rfl p13 (Reads.sub (cs := x345.enc.toList) ((hS.ext hE).get 0 rfl) 0 (ds := x345.k.enc.toList) rfl) rfl) (Bw.refl _) rfl)
          ·
            intro vs W hE hp
            have p4 := hp 4 (by kernel_rfl)
            simp only [List.getD_cons_zero, List.getD_cons_succ] at p4
            have p9 := hp 9 (by kernel_rfl)
            simp only [List.getD_cons_zero, List.getD_cons_succ] at p9
            have p14 := hp 14 (by kernel_rfl)
            simp only [List.getD_cons_zero, List.getD_cons_succ] at p14
            exact dr_on rfl rfl rfl p4 (congrArg Value.bool hg325) (dr_callS (v := .bool (x340.k.lt x345.k)) (enterS eg70 (args := [.agg x340.k.enc, .agg x345.k.enc]) rfl rfl rfl (l2 p9 p14)) (c_rless x340.k x345.k _) (fun _ => rfl))
          ·
            intro vs W hE hp
            have p4 := hp 4 (by kernel_rfl)
            simp only [List.getD_cons_zero, List.getD_cons_succ] at p4
            have p15 := hp 15 (by kernel_rfl)
            simp only [List.getD_cons_zero, List.getD_cons_succ] at p15
            exact dr_plain rfl (dr_ex (v := .bool (x340.k.lt x345.k)) (Ex.pickF rfl (p4.trans (congrArg Value.bool hg325)) p15) (Bw.refl _) rfl)
          ·
            intro vs W hE hp
            have p16 := hp 16 (by kernel_rfl)
            simp only [List.getD_cons_zero, List.getD_cons_succ] at p16
            exact dr_plain rfl (dr_ex (v := .bool (x340.k.lt x345.k)) (Ex.assign rfl p16) (Bw.refl _) rfl)
          intro vs W348 hE hv
          have hS0 := hS; replace hS := hS.ext hE
          have p0 : vs 0 = .int .i64 (i : Int) := hv 0 (by decide)
          have p1 : vs 1 = v243 := hv 1 (by decide)
          have p2 : vs 2 = .int .i64 ((normAt la).length : Int) := hv 2 (by decide)
          have p3 : vs 3 = .bool (decide ((i : Int) = ((normAt la).length : Int))) := hv 3 (by decide)
          have p4 : vs 4 = .bool (decide ((i : Int) = ((normAt la).length : Int))) := hv 4 (by decide)
          have p5 : vs 5 = v246 := hv 5 (by decide)
          have p6 : vs 6 = .int .i64 (j : Int) := hv 6 (by decide)
          have p7 : vs 7 = .pointer (some ⟨b338, po339, none⟩) := hv 7 (by decide)
          have p8 : vs 8 = .pointer (some ⟨b338, po339, none⟩) := hv 8 (by decide)
          have p9 : vs 9 = .agg x340.k.enc := hv 9 (by decide)
          have p10 : vs 10 = v243 := hv 10 (by decide)
          have p11 : vs 11 = .int .i64 (i : Int) := hv 11 (by decide)
          have p12 : vs 12 = .pointer (some ⟨b343, po344, none⟩) := hv 12 (by decide)
          have p13 : vs 13 = .pointer (some ⟨b343, po344, none⟩) := hv 13 (by decide)
          have p14 : vs 14 = .agg x345.k.enc := hv 14 (by decide)
          have p15 : vs 15 = .bool (x340.k.lt x345.k) := hv 15 (by decide)
          have p16 : vs 16 = .bool (x340.k.lt x345.k) := hv 16 (by decide)
          have p17 : vs 17 = .bool (x340.k.lt x345.k) := hv 17 (by decide)
          refine WL.keep (k := [(80, .int .i64 (i : Int)), (81, v243), (82, .int .i64 ((normAt la).length : Int)), (83, .bool (decide ((i : Int) = ((normAt la).length : Int)))), (84, .bool (decide ((i : Int) = ((normAt la).length : Int)))), (85, v246), (86, .int .i64 (j : Int)), (87, .pointer (some ⟨b338, po339, none⟩)), (88, .pointer (some ⟨b338, po339, none⟩)), (89, .agg x340.k.enc), (90, v243), (91, .int .i64 (i : Int)), (92, .pointer (some ⟨b343, po344, none⟩)), (93, .pointer (some ⟨b343, po344, none⟩)), (94, .agg x345.k.enc), (95, .bool (x340.k.lt x345.k)), (96, .bool (x340.k.lt x345.k)), (79, .bool (x340.k.lt x345.k))]) ⟨p0, p1, p2, p3, p4, p5, p6, p7, p8, p9, p10, p11, p12, p13, p14, p15, p16, p17, trivial⟩ ?_
          refine WL.nil ?_
          refine then_normal ?_
          refine WP.cond (b := x340.k.lt x345.k) rfl (fun hc349 => ?_) (fun hc349 => ?_)
          ·
            refine WP.seq ?_
            refine WP.region ?_
            refine WL.op (v := vo) rfl rfl rfl (Ex.move rfl rfl) ?_
            refine WL.op (v := v246) rfl rfl rfl (Ex.move rfl rfl) ?_
            refine WL.op (v := .int .i64 (j : Int)) rfl rfl rfl (Ex.move rfl rfl) ?_
            refine WL.op (v := .pointer (some ⟨b338, po339, none⟩)) rfl rfl rfl (Ex.indexC hi342 rfl rfl rfl) ?_
            refine WL.op (v := .agg x340.enc) rfl rfl rfl (Ex.loadA tyAgg71 rfl rfl (Reads.sub (cs := x340.enc.toList) (hS.get 1 rfl) 0 (ds := x340.enc.toList) rfl) rfl) ?_
            refine WL.buildSlice (ps := [(0, .agg x340.enc)]) (C := x340.enc) (E := 71) rfl (fun _ => by kernel_rfl) hS rfl rfl rfl rfl (fun b350 W351 hS => ?_)
            have hNb350 : w.heap.size ≤ b350 := hS.ge 0 rfl
            replace hS := hS.slice (α := At) (xs := [x340]) (cap := 1) rfl (by simp)
            refine WL.append (α := At) (a := x340) under22 infT71 rfl (by decide) (by decide) [] hO hS (hS.mem (.head _)) (by omega) rfl rfl rfl rfl rfl rfl (fun vo352 eo353 W354 hO355 hS => ?_)
            refine WL.op (v := vo352) rfl rfl rfl (Ex.assign rfl rfl) ?_
            refine WL.nil ?_
            refine then_normal ?_
            refine WP.region ?_
            refine WL.op (v := .int .i64 (j : Int)) rfl rfl rfl (Ex.move rfl rfl) ?_
            refine WL.op (v := .int .i64 ((j + 1 : Nat) : Int)) rfl rfl rfl (Ex.add rfl rfl rfl (wrap_succ (by omega))) ?_
            refine WL.op (v := .int .i64 ((j + 1 : Nat) : Int)) rfl rfl rfl (Ex.assign rfl rfl) ?_
            refine WL.nil ?_
            refine inBlock_normal ?_
            refine inBlock_normal ?_
            refine then_normal ?_
            exact ⟨_, ⟨i, j + 1, vo352, eo353, d ++ [x340], _, fr_keep ⟨rfl, rfl, rfl, rfl, rfl, rfl, trivial⟩, rfl, hS.drop 0 3, (by omega), (by omega), hO355, (by rw [hd, List.append_assoc]; congr 1; first | (exfalso; omega) | exact merge_r0 (by omega) hx341), (by simp only [List.length_append, List.length_cons, List.length_nil]; omega)⟩, by simp only [id]; omega⟩
          ·
            refine WP.seq ?_
            refine WP.drawL 19 [(fun u_ _ => u_ = vo), (fun u_ _ => u_ = v243), (fun u_ _ => u_ = .int .i64 (i : Int)), (fun u_ _ => u_ = .pointer (some ⟨b343, po344, none⟩)), (fun u_ _ => u_ = .pointer (some ⟨b343, po344, none⟩)), (fun u_ _ => u_ = .agg x345.k.enc), (fun u_ _ => u_ = v243), (fun u_ _ => u_ = .int .i64 (i : Int)), (fun u_ _ => u_ = .pointer (some ⟨b343, po344, none⟩)), (fun u_ _ => u_ = .pointer (some ⟨b343, po344 + 12, none⟩)), (fun u_ _ => u_ = .agg x345.v.enc), (fun u_ _ => u_ = v246), (fun u_ _ => u_ = .int .i64 (j : Int)), (fun u_ _ => u_ = .pointer (some ⟨b338, po339, none⟩)), (fun u_ _ => u_ = .pointer (some ⟨b338, po339 + 12, none⟩)), (fun u_ _ => u_ = .agg x340.v.enc), (fun u_ _ => u_ = .agg (x345.v.more x340.v).enc), (fun u_ _ => u_ = .agg (At.mk x345.k (x345.v.more x340.v)).enc), (fun u_ W_ => Sl W_ u_ [At.mk x345.k (x345.v.more x340.v)] ∧ New W348 u_)] (fun vs => (40, vs 18) :: (39, vs 17) :: (38, vs 16) :: (37, vs 15) :: (36, vs 14) :: (35, vs 13) :: (34, vs 12) :: (33, vs 11) :: (32, vs 10) :: (31, vs 9) :: (30, vs 8) :: (29, vs 7) :: (28, vs 6) :: (27, vs 5) :: (26, vs 4) :: (25, vs 3) :: (24, vs 2) :: (23, vs 1) :: (22, vs 0) :: _) ⟨fun _ _ _ _ h => h, fun _ _ _ _ h => h, fun _ _ _ _ h => h, fun _ _ _ _ h => h, fun _ _ _ _ h => h, fun _ _ _ _ h => h, fun _ _ _ _ h => h, fun _ _ _ _ h => h, fun _ _ _ _ h => h, fun _ _ _ _ h => h, fun _ _ _ _ h => h, fun _ _ _ _ h => h, fun _ _ _ _ h => h, fun _ _ _ _ h => h, fun _ _ _ _ h => h, fun _ _ _ _ h => h, fun _ _ _ _ h => h, fun _ _ _ _ h => h, mono_sl, trivial⟩ (by kernel_rfl) (fun _ => rfl) ⟨?_, ?_, ?_, ?_, ?_, ?_, ?_, ?_, ?_, ?_, ?_, ?_, ?_, ?_, ?_, ?_, ?_, ?_, ?_, trivial⟩ ?_
            ·
              intro vs W hE hp
              exact dr_plain rfl (dr_ex (v := vo) (Ex.move rfl rfl) (Bw.refl _) rfl)
            ·
              intro vs W hE hp
              exact dr_plain rfl (dr_ex (v := v243) (Ex.move rfl rfl) (Bw.refl _) rfl)
            ·
              intro vs W hE hp
              exact dr_plain rfl (dr_ex (v := .int .i64 (i : Int)) (Ex.move rfl rfl) (Bw.refl _) rfl)
            ·
              intro vs W hE hp
              have p1 := hp 1 (by kernel_rfl)
              simp only [List.getD_cons_zero, List.getD_cons_succ] at p1
              have p2 := hp 2 (by kernel_rfl)
              simp only [List.getD_cons_zero, List.getD_cons_succ] at p2
              exact dr_plain rfl (dr_ex (v := .pointer (some ⟨b343, po344, none⟩)) (Ex.indexC hi347 rfl p1 p2) (Bw.refl _) rfl)
            ·
              intro vs W hE hp
              have p3 := hp 3 (by kernel_rfl)
              simp only [List.getD_cons_zero, List.getD_cons_succ] at p3
              exact dr_plain rfl (dr_ex (v := .pointer (some ⟨b343, po344, none⟩)) (Ex.fieldAddr' fieldAt71_0 rfl p3) (Bw.refl _) rfl)
            ·
              intro vs W hE hp
              have p4 := hp 4 (by kernel_rfl)
              simp only [List.getD_cons_zero, List.getD_cons_succ] at p4
              exact dr_plain rfl (dr_ex (v := .agg x345.k.enc) (Ex.loadA tyAgg61 rfl p4 (Reads.sub (cs := x345.enc.toList) ((hS.ext hE).get 0 rfl) 0 (ds := x345.k.enc.toList) rfl) rfl) (Bw.refl _) rfl)
            ·
              intro vs W hE hp
              exact dr_plain rfl (dr_ex (v := v243) (Ex.move rfl rfl) (Bw.refl _) rfl)
            ·
              intro vs W hE hp
              exact dr_plain rfl (dr_ex (v := .int .i64 (i : Int)) (Ex.move rfl rfl) (Bw.refl _) rfl)
            ·
              intro vs W hE hp
              have p6 := hp 6 (by kernel_rfl)
              simp only [List.getD_cons_zero, List.getD_cons_succ] at p6
              have p7 := hp 7 (by kernel_rfl)
              simp only [List.getD_cons_zero, List.getD_cons_succ] at p7
              exact dr_plain rfl (dr_ex (v := .pointer (some ⟨b343, po344, none⟩)) (Ex.indexC hi347 rfl p6 p7) (Bw.refl _) rfl)
            ·
              intro vs W hE hp
              have p8 := hp 8 (by kernel_rfl)
              simp only [List.getD_cons_zero, List.getD_cons_succ] at p8
              exact dr_plain rfl (dr_ex (v := .pointer (some ⟨b343, po344 + 12, none⟩)) (Ex.fieldAddr' fieldAt71_1 rfl p8) (Bw.refl _) rfl)
            ·
              intro vs W hE hp
              have p9 := hp 9 (by kernel_rfl)
              simp only [List.getD_cons_zero, List.getD_cons_succ] at p9
              exact dr_plain rfl (dr_ex (v := .agg x345.v.enc) (Ex.loadA tyAgg67 rfl p9 (Reads.sub (cs := x345.enc.toList) ((hS.ext hE).get 0 rfl) 12 (ds := x345.v.enc.toList) rfl) rfl) (Bw.refl _) rfl)
            ·
              intro vs W hE hp
              exact dr_plain rfl (dr_ex (v := v246) (Ex.move rfl rfl) (Bw.refl _) rfl)
            ·
              intro vs W hE hp
              exact dr_plain rfl (dr_ex (v := .int .i64 (j : Int)) (Ex.move rfl rfl) (Bw.refl _) rfl)
            ·
              intro vs W hE hp
              have p11 := hp 11 (by kernel_rfl)
              simp only [List.getD_cons_zero, List.getD_cons_succ] at p11
              have p12 := hp 12 (by kernel_rfl)
              simp only [List.getD_cons_zero, List.getD_cons_succ] at p12
              exact dr_plain rfl (dr_ex (v := .pointer (some ⟨b338, po339, none⟩)) (Ex.indexC hi342 rfl p11 p12) (Bw.refl _) rfl)
            ·
              intro vs W hE hp
              have p13 := hp 13 (by kernel_rfl)
              simp only [List.getD_cons_zero, List.getD_cons_succ] at p13
              exact dr_plain rfl (dr_ex (v := .pointer (some ⟨b338, po339 + 12, none⟩)) (Ex.fieldAddr' fieldAt71_1 rfl p13) (Bw.refl _) rfl)
            ·
              intro vs W hE hp
              have p14 := hp 14 (by kernel_rfl)
              simp only [List.getD_cons_zero, List.getD_cons_succ] at p14
              exact dr_plain rfl (dr_ex (v := .agg x340.v.enc) (Ex.loadA tyAgg67 rfl p14 (Reads.sub (cs := x340.enc.toList) ((hS.ext hE).get 1 rfl) 12 (ds := x340.v.enc.toList) rfl) rfl) (Bw.refl _) rfl)
            ·
              intro vs W hE hp
              have p10 := hp 10 (by kernel_rfl)
              simp only [List.getD_cons_zero, List.getD_cons_succ] at p10
              have p15 := hp 15 (by kernel_rfl)
              simp only [List.getD_cons_zero, List.getD_cons_succ] at p15
              exact dr_plain rfl (dr_callS (v := .agg (x345.v.more x340.v).enc) (enterS eg71 (args := [.agg x345.v.enc, .agg x340.v.enc]) rfl rfl rfl (l2 p10 p15)) (c_rmore x345.v x340.v _) (fun _ => rfl))
            ·
              intro vs W hE hp
              have p5 := hp 5 (by kernel_rfl)
              simp only [List.getD_cons_zero, List.getD_cons_succ] at p5
              have p16 := hp 16 (by kernel_rfl)
              simp only [List.getD_cons_zero, List.getD_cons_succ] at p16
              exact dr_plain rfl (dr_ex (v := .agg (At.mk x345.k (x345.v.more x340.v)).enc) (Ex.build (ps := [(0, .agg x345.k.enc), (1, .agg (x345.v.more x340.v).enc)]) rfl (m2 p5 p16) (by kernel_rfl)) (Bw.refl _) rfl)
            ·
              intro vs W hE hp
              have p17 := hp 17 (by kernel_rfl)
              simp only [List.getD_cons_zero, List.getD_cons_succ] at p17
              exact dr_plain rfl (dr_slice1 rfl (m1 p17) (fun _ _ => by kernel_rfl) hE)
            intro vs W356 hE hv
            have hS0 := hS; replace hS := hS.ext hE
            have p0 : vs 0 = vo := hv 0 (by decide)
            have p1 : vs 1 = v243 := hv 1 (by decide)
            have p2 : vs 2 = .int .i64 (i : Int) := hv 2 (by decide)
            have p3 : vs 3 = .pointer (some ⟨b343, po344, none⟩) := hv 3 (by decide)
            have p4 : vs 4 = .pointer (some ⟨b343, po344, none⟩) := hv 4 (by decide)
            have p5 : vs 5 = .agg x345.k.enc := hv 5 (by decide)
            have p6 : vs 6 = v243 := hv 6 (by decide)
            have p7 : vs 7 = .int .i64 (i : Int) := hv 7 (by decide)
            have p8 : vs 8 = .pointer (some ⟨b343, po344, none⟩) := hv 8 (by decide)
            have p9 : vs 9 = .pointer (some ⟨b343, po344 + 12, none⟩) := hv 9 (by decide)
            have p10 : vs 10 = .agg x345.v.enc := hv 10 (by decide)
            have p11 : vs 11 = v246 := hv 11 (by decide)
            have p12 : vs 12 = .int .i64 (j : Int) := hv 12 (by decide)
            have p13 : vs 13 = .pointer (some ⟨b338, po339, none⟩) := hv 13 (by decide)
            have p14 : vs 14 = .pointer (some ⟨b338, po339 + 12, none⟩) := hv 14 (by decide)
            have p15 : vs 15 = .agg x340.v.enc := hv 15 (by decide)
            have p16 : vs 16 = .agg (x345.v.more x340.v).enc := hv 16 (by decide)
            have p17 : vs 17 = .agg (At.mk x345.k (x345.v.more x340.v)).enc := hv 17 (by decide)
            have p18 := hv 18 (by decide)
            obtain ⟨hv18, hn18⟩ := p18; have p18 : vs 18 = vs 18 := rfl
            replace hS := hS0.pinNew hS (pinSl (vs 18) [At.mk x345.k (x345.v.more x340.v)]) hv18 hn18
            replace p18 : vs 18 = vs 18 := rfl
            refine WL.keep (k := [(22, vo), (23, v243), (24, .int .i64 (i : Int)), (25, .pointer (some ⟨b343, po344, none⟩)), (26, .pointer (some ⟨b343, po344, none⟩)), (27, .agg x345.k.enc), (28, v243), (29, .int .i64 (i : Int)), (30, .pointer (some ⟨b343, po344, none⟩)), (31, .pointer (some ⟨b343, po344 + 12, none⟩)), (32, .agg x345.v.enc), (33, v246), (34, .int .i64 (j : Int)), (35, .pointer (some ⟨b338, po339, none⟩)), (36, .pointer (some ⟨b338, po339 + 12, none⟩)), (37, .agg x340.v.enc), (38, .agg (x345.v.more x340.v).enc), (39, .agg (At.mk x345.k (x345.v.more x340.v)).enc), (40, (vs 18))]) ⟨p0, p1, p2, p3, p4, p5, p6, p7, p8, p9, p10, p11, p12, p13, p14, p15, p16, p17, p18, trivial⟩ ?_
            refine WL.append (α := At) (a := At.mk x345.k (x345.v.more x340.v)) under22 infT71 rfl (by decide) (by decide) [] hO hS (hS.mem (.head _)) (by omega) rfl rfl rfl rfl rfl rfl (fun vo357 eo358 W359 hO360 hS => ?_)
            refine WL.op (v := vo357) rfl rfl rfl (Ex.assign rfl rfl) ?_
            refine WL.nil ?_
            refine then_normal ?_
            refine WP.seq ?_
            refine WP.region ?_
            refine WL.op (v := .int .i64 (i : Int)) rfl rfl rfl (Ex.move rfl rfl) ?_
            refine WL.op (v := .int .i64 ((i + 1 : Nat) : Int)) rfl rfl rfl (Ex.add rfl rfl rfl (wrap_succ (by omega))) ?_
            refine WL.op (v := .int .i64 ((i + 1 : Nat) : Int)) rfl rfl rfl (Ex.assign rfl rfl) ?_
            refine WL.nil ?_
            refine then_normal ?_
            refine WP.region ?_
            refine WL.op (v := .int .i64 (j : Int)) rfl rfl rfl (Ex.move rfl rfl) ?_
            refine WL.op (v := .int .i64 ((j + 1 : Nat) : Int)) rfl rfl rfl (Ex.add rfl rfl rfl (wrap_succ (by omega))) ?_
            refine WL.op (v := .int .i64 ((j + 1 : Nat) : Int)) rfl rfl rfl (Ex.assign rfl rfl) ?_
            refine WL.nil ?_
            refine inBlock_normal ?_
            refine inBlock_normal ?_
            refine then_normal ?_
            exact ⟨_, ⟨i + 1, j + 1, vo357, eo358, d ++ [At.mk x345.k (x345.v.more x340.v)], _, fr_keep ⟨rfl, rfl, rfl, rfl, rfl, rfl, trivial⟩, rfl, hS.drop 0 3, (by omega), (by omega), hO360, (by rw [hd, List.append_assoc]; congr 1; first | (exfalso; omega)), (by simp only [List.length_append, List.length_cons, List.length_nil]; omega)⟩, by simp only [id]; omega⟩
    ·
      have hc310' : ¬ ((j : Int) < ((normAt lb).length : Int)) := by simpa using hc310
      refine WP.exit ?_
      refine then_exit (then_exit (inBlock_same (?_)))
      refine then_normal ?_
      refine WP.seq ?_
      refine WP.region ?_
      refine WL.op (v := vo) rfl rfl rfl (Ex.move rfl rfl) ?_
      refine WL.op (v := vo) rfl rfl rfl (Ex.assign rfl rfl) ?_
      refine WL.nil ?_
      refine then_normal ?_
      refine WP.ret ?_
      refine ?_
      refine rt1 (v := vo) rfl rfl ?_
      have hr : normAt (la ++ lb) = d := by rw [← merge_norm, hd, show i = (normAt la).length by omega, show j = (normAt lb).length by omega, List.drop_length, List.drop_length]; simp [mergeAt]
      have hz := OutG.sl (pre := []) hO hS (by omega)
      exact ⟨_, rfl, hS.bw, (by rw [hr]; exact hz.1), hz.2⟩
set_option maxRecDepth 100000 in
set_option maxHeartbeats 1000000 in
theorem c_rmeet (v v2 : Value) (la lb : List At) (w : World) (ha : Sl w v la) (hb : Sl w v2 lb) (hl : la.length ≤ 1048576) (hl2 : lb.length ≤ 1048576) :
    Calls Try.prog 19 #[v, v2] w fun e w' => ∃ v', e = .returned v' ∧ Bw w w' ∧ Sl w' v' (meetAt la lb) ∧ New w v' := by
  have hS := St.begin (w := w) (pins := pinSl v la :: pinSl v2 lb :: []) ⟨ha, hb, trivial⟩
  refine enter (n := 56) Try.func19 rfl rfl (Nat.le_of_ble_eq_true rfl) (l := [(0, v), (1, v2)]) rfl ?_
  refine WP.seq ?_
  refine WP.region ?_
  refine WL.op (v := .slice none 0 0) rfl rfl rfl (Ex.assign rfl rfl) ?_
  refine WL.nil ?_
  refine then_normal ?_
  refine WP.seq ?_
  refine WP.region ?_
  refine WL.op (v := v) rfl rfl rfl (Ex.move rfl rfl) ?_
  refine WL.call rfl rfl rfl (enterS eg66 (args := [v]) rfl rfl rfl rfl) (c_rnorm _ la _ (hS.mem (.head _)) (by first | omega | (simp; done) | (simp; omega))) ?_
  rintro e W362 ⟨v361, rfl, hB, hv', hn'⟩
  replace hS := hS.pinOr (l' := normAt la) hB (.head _) hv' hn'
  refine ⟨_, rfl, ?_⟩
  have hq363 := normAt_length la
  refine WL.op (v := v2) rfl rfl rfl (Ex.move rfl rfl) ?_
  refine WL.call rfl rfl rfl (enterS eg66 (args := [v2]) rfl rfl rfl rfl) (c_rnorm _ lb _ (hS.mem (.tail _ (.tail _ (.head _)))) (by first | omega | (simp; done) | (simp; omega))) ?_
  rintro e W365 ⟨v364, rfl, hB, hv', hn'⟩
  replace hS := hS.pinOr (l' := normAt lb) hB (.tail _ (.tail _ (.head _))) hv' hn'
  refine ⟨_, rfl, ?_⟩
  have hq366 := normAt_length lb
  refine WL.op (v := v361) rfl rfl rfl (Ex.assign rfl rfl) ?_
  refine WL.op (v := v364) rfl rfl rfl (Ex.assign rfl rfl) ?_
  refine WL.nil ?_
  refine then_normal ?_
  refine WP.seq ?_
  refine WP.region ?_
  refine WL.op (v := .slice none 0 0) rfl rfl rfl (Ex.assign rfl rfl) ?_
  refine WL.nil ?_
  refine then_normal ?_
  refine WP.seq ?_
  refine WP.seq ?_
  refine WP.region ?_
  refine WL.op (v := .int .i64 0) rfl rfl rfl (Ex.assign rfl rfl) ?_
  refine WL.nil ?_
  refine then_normal ?_
  refine WP.block ?_
  refine WP.loop (fun (μ : Nat) a W => ∃ (k : Nat), ∃ (vo : Value), ∃ (eo : Option (Nat × Obj)), ∃ (d : List At), ∃ (l0 : Fr), a = fr 56 [] ([(0, v361), (1, v364), (4, .slice none 0 0), (6, .int .i64 (k : Int)), (5, vo)] ++ l0) ∧ μ = (normAt la).length - k ∧ k ≤ (normAt la).length ∧ St w (eo.toList) (pinSl v364 (normAt lb) :: pinSl v361 (normAt la) :: pinSl v la :: pinSl v2 lb :: []) W ∧ (OutG vo eo 71 d) ∧ (d = (meetL ((normAt la).take k) ((normAt lb).map kvp)).map atOf) ∧ (d.length ≤ k)) id _ ⟨0, .slice none 0 0, none, [], _, fr_keep ⟨rfl, rfl, rfl, rfl, rfl, trivial⟩, rfl, by omega, hS, OutG.nil, rfl, (by simp)⟩ ?_
  rintro μ a W367 ⟨k, vo, eo, d, l0, rfl, rfl, hk, hS, hO, hd, hdl⟩
  refine WP.seq ?_
  refine WP.seq ?_
  refine WP.region ?_
  refine WL.op (v := .int .i64 (k : Int)) rfl rfl rfl (Ex.move rfl rfl) ?_
  refine WL.op (v := v361) rfl rfl rfl (Ex.move rfl rfl) ?_
  have hl368 : (normAt la).length < 4611686018427387904 := (hS.mem (.tail _ (.head _)) : Sl _ _ _).lt
  refine WL.op (v := .int .i64 ((normAt la).length : Int)) rfl rfl rfl (Ex.lenSl (l := normAt la) ⟨_, under22⟩ rfl rfl (hS.mem (.tail _ (.head _)))) ?_
  refine WL.op (v := .bool (decide ((k : Int) < ((normAt la).length : Int)))) rfl rfl rfl (Ex.lt rfl rfl rfl) ?_
  refine WL.nil ?_
  refine then_normal ?_
  refine WP.cond (b := decide ((k : Int) < ((normAt la).length : Int))) rfl (fun hc369 => ?_) (fun hc369 => ?_)
  ·
    have hc369' : (k : Int) < ((normAt la).length : Int) := by simpa using hc369
    refine WP.skip ?_
    refine then_normal ?_
    refine WP.seq ?_
    refine WP.block ?_
    refine WP.seq ?_
    refine WP.region ?_
    refine WL.op (v := v364) rfl rfl rfl (Ex.move rfl rfl) ?_
    refine WL.op (v := v361) rfl rfl rfl (Ex.move rfl rfl) ?_
    refine WL.op (v := .int .i64 (k : Int)) rfl rfl rfl (Ex.move rfl rfl) ?_
    obtain ⟨b370, po371, x372, hx373, hi374, hS⟩ := hS.elem (α := At) (k := k) (.tail _ (.head _)) under22 tySz71 (by omega)
    refine WL.op (v := .pointer (some ⟨b370, po371, none⟩)) rfl rfl rfl (Ex.indexC hi374 rfl rfl rfl) ?_
    refine WL.op (v := .pointer (some ⟨b370, po371, none⟩)) rfl rfl rfl (Ex.fieldAddr' fieldAt71_0 rfl rfl) ?_
    refine WL.op (v := .agg x372.k.enc) rfl rfl rfl (Ex.loadA tyAgg61 rfl rfl (Reads.sub (cs := x372.enc.toList) (hS.get 0 rfl) 0 (ds := x372.k.enc.toList) rfl) rfl) ?_
    refine WL.call rfl rfl rfl (enterS eg76 (args := [v364, .agg x372.k.enc]) rfl rfl rfl rfl) (c_rfind0 _ (normAt lb) x372.k _ (hS.mem (.tail _ (.head _)))) ?_
    rintro e W375 ⟨rfl, hB⟩
    replace hS := hS.ext hB
    refine ⟨_, rfl, ?_⟩
    refine WL.op (v := .tuple #[.agg ((look ((normAt lb).map kvp) x372.k).getD Vl.zero).enc, .bool ((look ((normAt lb).map kvp) x372.k).isSome)]) rfl rfl rfl (Ex.move rfl rfl) ?_
    refine WL.op (v := .agg ((look ((normAt lb).map kvp) x372.k).getD Vl.zero).enc) rfl rfl rfl (Ex.extract rfl rfl rfl) ?_
    refine WL.op (v := .bool ((look ((normAt lb).map kvp) x372.k).isSome)) rfl rfl rfl (Ex.extract rfl rfl rfl) ?_
    refine WL.alloc zv67 hS rfl rfl rfl rfl (fun b376 W377 hS => ?_)
    refine WL.store tySz67 hS 0 rfl rfl rfl rfl rfl rfl rfl rfl rfl (C' := ((look ((normAt lb).map kvp) x372.k).getD Vl.zero).enc) rfl ((b376, .cells ((look ((normAt lb).map kvp) x372.k).getD Vl.zero).enc 67) :: eo.toList) rfl (fun W378 hS => ?_)
    refine WL.op (v := .bool ((look ((normAt lb).map kvp) x372.k).isSome)) rfl rfl rfl (Ex.assign rfl rfl) ?_
    refine WL.nil ?_
    refine then_normal ?_
    refine WP.seq ?_
    refine WP.seq ?_
    refine WP.region ?_
    refine WL.op (v := .bool ((look ((normAt lb).map kvp) x372.k).isSome)) rfl rfl rfl (Ex.move rfl rfl) ?_
    refine WL.op (v := .bool (!((look ((normAt lb).map kvp) x372.k).isSome))) rfl rfl rfl (Ex.not rfl rfl) ?_
    refine WL.nil ?_
    refine then_normal ?_
    refine WP.cond (b := !((look ((normAt lb).map kvp) x372.k).isSome)) rfl (fun hc379 => ?_) (fun hc379 => ?_)
    ·
      have hc380 : ((look ((normAt lb).map kvp) x372.k).isSome) = false := by simpa using hc379
      refine WP.exit ?_
      refine then_exit (inBlock_same (?_))
      refine then_normal ?_
      refine WP.region ?_
      refine WL.op (v := .int .i64 (k : Int)) rfl rfl rfl (Ex.move rfl rfl) ?_
      refine WL.op (v := .int .i64 ((k + 1 : Nat) : Int)) rfl rfl rfl (Ex.add rfl rfl rfl (wrap_succ (by omega))) ?_
      refine WL.op (v := .int .i64 ((k + 1 : Nat) : Int)) rfl rfl rfl (Ex.assign rfl rfl) ?_
      refine WL.nil ?_
      refine then_normal ?_
      exact ⟨_, ⟨k + 1, vo, eo, d, _, fr_keep ⟨rfl, rfl, rfl, rfl, rfl, trivial⟩, rfl, by omega, hS.drop 1 1, hO, (by rw [meetL_skip hx373 hc380]; exact hd), (by omega)⟩, by simp only [id]; omega⟩
    ·
      have hc381 : ((look ((normAt lb).map kvp) x372.k).isSome) = true := by simpa using hc379
      refine WP.skip ?_
      refine then_normal ?_
      refine WP.seq ?_
      refine WP.drawL 7 [(fun u_ _ => u_ = v361), (fun u_ _ => u_ = .int .i64 (k : Int)), (fun u_ _ => u_ = .pointer (some ⟨b370, po371, none⟩)), (fun u_ _ => u_ = .pointer (some ⟨b370, po371 + 12, none⟩)), (fun u_ _ => u_ = .agg x372.v.enc), (fun u_ _ => u_ = .agg ((look ((normAt lb).map kvp) x372.k).getD Vl.zero).enc), (fun u_ _ => u_ = .bool (x372.v.over ((look ((normAt lb).map kvp) x372.k).getD Vl.zero)))] (fun vs => (37, vs 6) :: (36, vs 5) :: (35, vs 4) :: (34, vs 3) :: (33, vs 2) :: (32, vs 1) :: (31, vs 0) :: _) ⟨fun _ _ _ _ h => h, fun _ _ _ _ h => h, fun _ _ _ _ h => h, fun _ _ _ _ h => h, fun _ _ _ _ h => h, fun _ _ _ _ h => h, fun _ _ _ _ h => h, trivial⟩ (by kernel_rfl) (fun _ => rfl) ⟨?_, ?_, ?_, ?_, ?_, ?_, ?_, trivial⟩ ?_
      ·
        intro vs W hE hp
        exact dr_plain rfl (dr_ex (v := v361) (Ex.move rfl rfl) (Bw.refl _) rfl)
      ·
        intro vs W hE hp
        exact dr_plain rfl (dr_ex (v := .int .i64 (k : Int)) (Ex.move rfl rfl) (Bw.refl _) rfl)
      ·
        intro vs W hE hp
        have p0 := hp 0 (by kernel_rfl)
        simp only [List.getD_cons_zero, List.getD_cons_succ] at p0
        have p1 := hp 1 (by kernel_rfl)
        simp only [List.getD_cons_zero, List.getD_cons_succ] at p1
        exact dr_plain rfl (dr_ex (v := .pointer (some ⟨b370, po371, none⟩)) (Ex.indexC hi374 rfl p0 p1) (Bw.refl _) rfl)
      ·
        intro vs W hE hp
        have p2 := hp 2 (by kernel_rfl)
        simp only [List.getD_cons_zero, List.getD_cons_succ] at p2
        exact dr_plain rfl (dr_ex (v := .pointer (some ⟨b370, po371 + 12, none⟩)) (Ex.fieldAddr' fieldAt71_1 rfl p2) (Bw.refl _) rfl)
      ·
        intro vs W hE hp
        have p3 := hp 3 (by kernel_rfl)
        simp only [List.getD_cons_zero, List.getD_cons_succ] at p3
        exact dr_plain rfl (dr_ex (v := .agg x372.v.enc) (Ex.loadA tyAgg67 rfl p3 (Reads.sub (cs := x372.enc.toList) ((hS.ext hE).get 0 rfl) 12 (ds := x372.v.enc.toList) rfl) rfl) (Bw.refl _) rfl)
      ·
        intro vs W hE hp
        exact dr_plain rfl (dr_ex (v := .agg ((look ((normAt lb).map kvp) x372.k).getD Vl.zero).enc) (Ex.loadA tyAgg67 rfl rfl (Reads.of_block ((hS.ext hE).at 0 rfl) 0 ((look ((normAt lb).map kvp) x372.k).getD Vl.zero).enc.toList rfl) rfl) (Bw.refl _) rfl)
      ·
        intro vs W hE hp
        have p4 := hp 4 (by kernel_rfl)
        simp only [List.getD_cons_zero, List.getD_cons_succ] at p4
        have p5 := hp 5 (by kernel_rfl)
        simp only [List.getD_cons_zero, List.getD_cons_succ] at p5
        exact dr_plain rfl (dr_callS (v := .bool (x372.v.over ((look ((normAt lb).map kvp) x372.k).getD Vl.zero))) (enterS eg77 (args := [.agg x372.v.enc, .agg ((look ((normAt lb).map kvp) x372.k).getD Vl.zero).enc]) rfl rfl rfl (l2 p4 p5)) (c_rover x372.v ((look ((normAt lb).map kvp) x372.k).getD Vl.zero) _) (fun _ => rfl))
      intro vs W382 hE hv
      have hS0 := hS; replace hS := hS.ext hE
      have p0 : vs 0 = v361 := hv 0 (by decide)
      have p1 : vs 1 = .int .i64 (k : Int) := hv 1 (by decide)
      have p2 : vs 2 = .pointer (some ⟨b370, po371, none⟩) := hv 2 (by decide)
      have p3 : vs 3 = .pointer (some ⟨b370, po371 + 12, none⟩) := hv 3 (by decide)
      have p4 : vs 4 = .agg x372.v.enc := hv 4 (by decide)
      have p5 : vs 5 = .agg ((look ((normAt lb).map kvp) x372.k).getD Vl.zero).enc := hv 5 (by decide)
      have p6 : vs 6 = .bool (x372.v.over ((look ((normAt lb).map kvp) x372.k).getD Vl.zero)) := hv 6 (by decide)
      refine WL.keep (k := [(31, v361), (32, .int .i64 (k : Int)), (33, .pointer (some ⟨b370, po371, none⟩)), (34, .pointer (some ⟨b370, po371 + 12, none⟩)), (35, .agg x372.v.enc), (36, .agg ((look ((normAt lb).map kvp) x372.k).getD Vl.zero).enc), (37, .bool (x372.v.over ((look ((normAt lb).map kvp) x372.k).getD Vl.zero)))]) ⟨p0, p1, p2, p3, p4, p5, p6, trivial⟩ ?_
      refine WL.nil ?_
      refine then_normal ?_
      refine WP.cond (b := x372.v.over ((look ((normAt lb).map kvp) x372.k).getD Vl.zero)) rfl (fun hc383 => ?_) (fun hc383 => ?_)
      ·
        refine WP.drawL 9 [(fun u_ _ => u_ = vo), (fun u_ _ => u_ = v361), (fun u_ _ => u_ = .int .i64 (k : Int)), (fun u_ _ => u_ = .pointer (some ⟨b370, po371, none⟩)), (fun u_ _ => u_ = .pointer (some ⟨b370, po371, none⟩)), (fun u_ _ => u_ = .agg x372.k.enc), (fun u_ _ => u_ = .agg ((look ((normAt lb).map kvp) x372.k).getD Vl.zero).enc), (fun u_ _ => u_ = .agg (At.mk x372.k ((look ((normAt lb).map kvp) x372.k).getD Vl.zero)).enc), (fun u_ W_ => Sl W_ u_ [At.mk x372.k ((look ((normAt lb).map kvp) x372.k).getD Vl.zero)] ∧ New W382 u_)] (fun vs => (46, vs 8) :: (45, vs 7) :: (44, vs 6) :: (43, vs 5) :: (42, vs 4) :: (41, vs 3) :: (40, vs 2) :: (39, vs 1) :: (38, vs 0) :: _) ⟨fun _ _ _ _ h => h, fun _ _ _ _ h => h, fun _ _ _ _ h => h, fun _ _ _ _ h => h, fun _ _ _ _ h => h, fun _ _ _ _ h => h, fun _ _ _ _ h => h, fun _ _ _ _ h => h, mono_sl, trivial⟩ (by kernel_rfl) (fun _ => rfl) ⟨?_, ?_, ?_, ?_, ?_, ?_, ?_, ?_, ?_, trivial⟩ ?_
        ·
          intro vs W hE hp
          exact dr_plain rfl (dr_ex (v := vo) (Ex.move rfl rfl) (Bw.refl _) rfl)
        ·
          intro vs W hE hp
          exact dr_plain rfl (dr_ex (v := v361) (Ex.move rfl rfl) (Bw.refl _) rfl)
        ·
          intro vs W hE hp
          exact dr_plain rfl (dr_ex (v := .int .i64 (k : Int)) (Ex.move rfl rfl) (Bw.refl _) rfl)
        ·
          intro vs W hE hp
          have p1 := hp 1 (by kernel_rfl)
          simp only [List.getD_cons_zero, List.getD_cons_succ] at p1
          have p2 := hp 2 (by kernel_rfl)
          simp only [List.getD_cons_zero, List.getD_cons_succ] at p2
          exact dr_plain rfl (dr_ex (v := .pointer (some ⟨b370, po371, none⟩)) (Ex.indexC hi374 rfl p1 p2) (Bw.refl _) rfl)
        ·
          intro vs W hE hp
          have p3 := hp 3 (by kernel_rfl)
          simp only [List.getD_cons_zero, List.getD_cons_succ] at p3
          exact dr_plain rfl (dr_ex (v := .pointer (some ⟨b370, po371, none⟩)) (Ex.fieldAddr' fieldAt71_0 rfl p3) (Bw.refl _) rfl)
        ·
          intro vs W hE hp
          have p4 := hp 4 (by kernel_rfl)
          simp only [List.getD_cons_zero, List.getD_cons_succ] at p4
          exact dr_plain rfl (dr_ex (v := .agg x372.k.enc) (Ex.loadA tyAgg61 rfl p4 (Reads.sub (cs := x372.enc.toList) ((hS.ext hE).get 0 rfl) 0 (ds := x372.k.enc.toList) rfl) rfl) (Bw.refl _) rfl)
        ·
          intro vs W hE hp
          exact dr_plain rfl (dr_ex (v := .agg ((look ((normAt lb).map kvp) x372.k).getD Vl.zero).enc) (Ex.loadA tyAgg67 rfl rfl (Reads.of_block ((hS.ext hE).at 0 rfl) 0 ((look ((normAt lb).map kvp) x372.k).getD Vl.zero).enc.toList rfl) rfl) (Bw.refl _) rfl)
        ·
          intro vs W hE hp
          have p5 := hp 5 (by kernel_rfl)
          simp only [List.getD_cons_zero, List.getD_cons_succ] at p5
          have p6 := hp 6 (by kernel_rfl)
          simp only [List.getD_cons_zero, List.getD_cons_succ] at p6
          exact dr_plain rfl (dr_ex (v := .agg (At.mk x372.k ((look ((normAt lb).map kvp) x372.k).getD Vl.zero)).enc) (Ex.build (ps := [(0, .agg x372.k.enc), (1, .agg ((look ((normAt lb).map kvp) x372.k).getD Vl.zero).enc)]) rfl (m2 p5 p6) (by kernel_rfl)) (Bw.refl _) rfl)
        ·
          intro vs W hE hp
          have p7 := hp 7 (by kernel_rfl)
          simp only [List.getD_cons_zero, List.getD_cons_succ] at p7
          exact dr_plain rfl (dr_slice1 rfl (m1 p7) (fun _ _ => by kernel_rfl) hE)
        intro vs W384 hE hv
        have hS0 := hS; replace hS := hS.ext hE
        have p0 : vs 0 = vo := hv 0 (by decide)
        have p1 : vs 1 = v361 := hv 1 (by decide)
        have p2 : vs 2 = .int .i64 (k : Int) := hv 2 (by decide)
        have p3 : vs 3 = .pointer (some ⟨b370, po371, none⟩) := hv 3 (by decide)
        have p4 : vs 4 = .pointer (some ⟨b370, po371, none⟩) := hv 4 (by decide)
        have p5 : vs 5 = .agg x372.k.enc := hv 5 (by decide)
        have p6 : vs 6 = .agg ((look ((normAt lb).map kvp) x372.k).getD Vl.zero).enc := hv 6 (by decide)
        have p7 : vs 7 = .agg (At.mk x372.k ((look ((normAt lb).map kvp) x372.k).getD Vl.zero)).enc := hv 7 (by decide)
        have p8 := hv 8 (by decide)
        obtain ⟨hv8, hn8⟩ := p8; have p8 : vs 8 = vs 8 := rfl
        replace hS := hS0.pinNew hS (pinSl (vs 8) [At.mk x372.k ((look ((normAt lb).map kvp) x372.k).getD Vl.zero)]) hv8 hn8
        replace p8 : vs 8 = vs 8 := rfl
        refine WL.keep (k := [(38, vo), (39, v361), (40, .int .i64 (k : Int)), (41, .pointer (some ⟨b370, po371, none⟩)), (42, .pointer (some ⟨b370, po371, none⟩)), (43, .agg x372.k.enc), (44, .agg ((look ((normAt lb).map kvp) x372.k).getD Vl.zero).enc), (45, .agg (At.mk x372.k ((look ((normAt lb).map kvp) x372.k).getD Vl.zero)).enc), (46, (vs 8))]) ⟨p0, p1, p2, p3, p4, p5, p6, p7, p8, trivial⟩ ?_
        refine WL.append (α := At) (a := At.mk x372.k ((look ((normAt lb).map kvp) x372.k).getD Vl.zero)) under22 infT71 rfl (by decide) (by decide) [(b376, .cells ((look ((normAt lb).map kvp) x372.k).getD Vl.zero).enc 67)] hO hS (hS.mem (.head _)) (by omega) rfl rfl rfl rfl rfl rfl (fun vo385 eo386 W387 hO388 hS => ?_)
        refine WL.op (v := vo385) rfl rfl rfl (Ex.assign rfl rfl) ?_
        refine WL.nil ?_
        refine inBlock_normal ?_
        refine then_normal ?_
        refine WP.region ?_
        refine WL.op (v := .int .i64 (k : Int)) rfl rfl rfl (Ex.move rfl rfl) ?_
        refine WL.op (v := .int .i64 ((k + 1 : Nat) : Int)) rfl rfl rfl (Ex.add rfl rfl rfl (wrap_succ (by omega))) ?_
        refine WL.op (v := .int .i64 ((k + 1 : Nat) : Int)) rfl rfl rfl (Ex.assign rfl rfl) ?_
        refine WL.nil ?_
        refine then_normal ?_
        exact ⟨_, ⟨k + 1, vo385, eo386, d ++ [At.mk x372.k ((look ((normAt lb).map kvp) x372.k).getD Vl.zero)], _, fr_keep ⟨rfl, rfl, rfl, rfl, rfl, trivial⟩, rfl, by omega, hS.drop 1 2, hO388, (by rw [meet_over hx373 hc381 hc383, hd]), (by simp only [List.length_append, List.length_cons, List.length_nil]; omega)⟩, by simp only [id]; omega⟩
      ·
        refine WP.region ?_
        refine WL.op (v := vo) rfl rfl rfl (Ex.move rfl rfl) ?_
        refine WL.op (v := v361) rfl rfl rfl (Ex.move rfl rfl) ?_
        refine WL.op (v := .int .i64 (k : Int)) rfl rfl rfl (Ex.move rfl rfl) ?_
        refine WL.op (v := .pointer (some ⟨b370, po371, none⟩)) rfl rfl rfl (Ex.indexC hi374 rfl rfl rfl) ?_
        refine WL.op (v := .agg x372.enc) rfl rfl rfl (Ex.loadA tyAgg71 rfl rfl (Reads.sub (cs := x372.enc.toList) (hS.get 0 rfl) 0 (ds := x372.enc.toList) rfl) rfl) ?_
        refine WL.buildSlice (ps := [(0, .agg x372.enc)]) (C := x372.enc) (E := 71) rfl (fun _ => by kernel_rfl) hS rfl rfl rfl rfl (fun b389 W390 hS => ?_)
        have hNb389 : w.heap.size ≤ b389 := hS.ge 0 rfl
        replace hS := hS.slice (α := At) (xs := [x372]) (cap := 1) rfl (by simp)
        refine WL.append (α := At) (a := x372) under22 infT71 rfl (by decide) (by decide) [(b376, .cells ((look ((normAt lb).map kvp) x372.k).getD Vl.zero).enc 67)] hO hS (hS.mem (.head _)) (by omega) rfl rfl rfl rfl rfl rfl (fun vo391 eo392 W393 hO394 hS => ?_)
        refine WL.op (v := vo391) rfl rfl rfl (Ex.assign rfl rfl) ?_
        refine WL.nil ?_
        refine inBlock_normal ?_
        refine then_normal ?_
        refine WP.region ?_
        refine WL.op (v := .int .i64 (k : Int)) rfl rfl rfl (Ex.move rfl rfl) ?_
        refine WL.op (v := .int .i64 ((k + 1 : Nat) : Int)) rfl rfl rfl (Ex.add rfl rfl rfl (wrap_succ (by omega))) ?_
        refine WL.op (v := .int .i64 ((k + 1 : Nat) : Int)) rfl rfl rfl (Ex.assign rfl rfl) ?_
        refine WL.nil ?_
        refine then_normal ?_
        exact ⟨_, ⟨k + 1, vo391, eo392, d ++ [x372], _, fr_keep ⟨rfl, rfl, rfl, rfl, rfl, trivial⟩, rfl, by omega, hS.drop 1 2, hO394, (by rw [meet_under hx373 hc381 hc383, hd]), (by simp only [List.length_append, List.length_cons, List.length_nil]; omega)⟩, by simp only [id]; omega⟩
  ·
    have hc369' : ¬ ((k : Int) < ((normAt la).length : Int)) := by simpa using hc369
    refine WP.exit ?_
    refine then_exit (then_exit (inBlock_same (?_)))
    refine then_normal ?_
    refine WP.seq ?_
    refine WP.region ?_
    refine WL.op (v := vo) rfl rfl rfl (Ex.move rfl rfl) ?_
    refine WL.op (v := vo) rfl rfl rfl (Ex.assign rfl rfl) ?_
    refine WL.nil ?_
    refine then_normal ?_
    refine WP.ret ?_
    refine ?_
    refine rt1 (v := vo) rfl rfl ?_
    have hr : meetAt la lb = d := by rw [show k = (normAt la).length by omega, List.take_length] at hd; rw [← meet_rows, hd]
    have hz := OutG.sl (pre := []) hO hS (by omega)
    exact ⟨_, rfl, hS.bw, (by rw [hr]; exact hz.1), hz.2⟩
set_option maxRecDepth 100000 in
set_option maxHeartbeats 1000000 in
theorem c_rleq (v v2 : Value) (la lb : List At) (w : World) (ha : Sl w v la) (hb : Sl w v2 lb) (hl : la.length ≤ 1048576) (hl2 : lb.length ≤ 1048576) :
    Calls Try.prog 21 #[v, v2] w fun e w' => e = .returned (.bool (leqAt la lb)) ∧ Bw w w' := by
  have hS := St.begin (w := w) (pins := pinSl v la :: pinSl v2 lb :: []) ⟨ha, hb, trivial⟩
  refine enter (n := 40) Try.func21 rfl rfl (Nat.le_of_ble_eq_true rfl) (l := [(0, v), (1, v2)]) rfl ?_
  refine WP.seq ?_
  refine WP.region ?_
  refine WL.op (v := .bool false) rfl rfl rfl (Ex.assign rfl rfl) ?_
  refine WL.nil ?_
  refine then_normal ?_
  refine WP.seq ?_
  refine WP.region ?_
  refine WL.op (v := v) rfl rfl rfl (Ex.move rfl rfl) ?_
  refine WL.call rfl rfl rfl (enterS eg66 (args := [v]) rfl rfl rfl rfl) (c_rnorm _ la _ (hS.mem (.head _)) (by first | omega | (simp; done) | (simp; omega))) ?_
  rintro e W396 ⟨v395, rfl, hB, hv', hn'⟩
  replace hS := hS.pinOr (l' := normAt la) hB (.head _) hv' hn'
  refine ⟨_, rfl, ?_⟩
  have hq397 := normAt_length la
  refine WL.op (v := v2) rfl rfl rfl (Ex.move rfl rfl) ?_
  refine WL.call rfl rfl rfl (enterS eg66 (args := [v2]) rfl rfl rfl rfl) (c_rnorm _ lb _ (hS.mem (.tail _ (.tail _ (.head _)))) (by first | omega | (simp; done) | (simp; omega))) ?_
  rintro e W399 ⟨v398, rfl, hB, hv', hn'⟩
  replace hS := hS.pinOr (l' := normAt lb) hB (.tail _ (.tail _ (.head _))) hv' hn'
  refine ⟨_, rfl, ?_⟩
  have hq400 := normAt_length lb
  refine WL.op (v := v395) rfl rfl rfl (Ex.assign rfl rfl) ?_
  refine WL.op (v := v398) rfl rfl rfl (Ex.assign rfl rfl) ?_
  refine WL.nil ?_
  refine then_normal ?_
  refine WP.seq ?_
  refine WP.seq ?_
  refine WP.region ?_
  refine WL.op (v := .int .i64 0) rfl rfl rfl (Ex.assign rfl rfl) ?_
  refine WL.nil ?_
  refine then_normal ?_
  refine WP.block ?_
  refine WP.loop (fun (μ : Nat) a W => ∃ (k : Nat), ∃ (l0 : Fr), a = fr 40 [] ([(0, v395), (1, v398), (5, .int .i64 (k : Int))] ++ l0) ∧ μ = (normAt la).length - k ∧ k ≤ (normAt la).length ∧ St w ([]) (pinSl v398 (normAt lb) :: pinSl v395 (normAt la) :: pinSl v la :: pinSl v2 lb :: []) W ∧ (((normAt la).take k).all (belowM ((normAt lb).map kvp)) = true)) id _ ⟨0, _, fr_keep ⟨rfl, rfl, rfl, trivial⟩, rfl, by omega, hS, rfl⟩ ?_
  rintro μ a W401 ⟨k, l0, rfl, rfl, hk, hS, hall⟩
  refine WP.seq ?_
  refine WP.seq ?_
  refine WP.region ?_
  refine WL.op (v := .int .i64 (k : Int)) rfl rfl rfl (Ex.move rfl rfl) ?_
  refine WL.op (v := v395) rfl rfl rfl (Ex.move rfl rfl) ?_
  have hl402 : (normAt la).length < 4611686018427387904 := (hS.mem (.tail _ (.head _)) : Sl _ _ _).lt
  refine WL.op (v := .int .i64 ((normAt la).length : Int)) rfl rfl rfl (Ex.lenSl (l := normAt la) ⟨_, under22⟩ rfl rfl (hS.mem (.tail _ (.head _)))) ?_
  refine WL.op (v := .bool (decide ((k : Int) < ((normAt la).length : Int)))) rfl rfl rfl (Ex.lt rfl rfl rfl) ?_
  refine WL.nil ?_
  refine then_normal ?_
  refine WP.cond (b := decide ((k : Int) < ((normAt la).length : Int))) rfl (fun hc403 => ?_) (fun hc403 => ?_)
  ·
    have hc403' : (k : Int) < ((normAt la).length : Int) := by simpa using hc403
    refine WP.skip ?_
    refine then_normal ?_
    refine WP.seq ?_
    refine WP.block ?_
    refine WP.seq ?_
    refine WP.region ?_
    refine WL.op (v := v398) rfl rfl rfl (Ex.move rfl rfl) ?_
    refine WL.op (v := v395) rfl rfl rfl (Ex.move rfl rfl) ?_
    refine WL.op (v := .int .i64 (k : Int)) rfl rfl rfl (Ex.move rfl rfl) ?_
    obtain ⟨b404, po405, x406, hx407, hi408, hS⟩ := hS.elem (α := At) (k := k) (.tail _ (.head _)) under22 tySz71 (by omega)
    refine WL.op (v := .pointer (some ⟨b404, po405, none⟩)) rfl rfl rfl (Ex.indexC hi408 rfl rfl rfl) ?_
    refine WL.op (v := .pointer (some ⟨b404, po405, none⟩)) rfl rfl rfl (Ex.fieldAddr' fieldAt71_0 rfl rfl) ?_
    refine WL.op (v := .agg x406.k.enc) rfl rfl rfl (Ex.loadA tyAgg61 rfl rfl (Reads.sub (cs := x406.enc.toList) (hS.get 0 rfl) 0 (ds := x406.k.enc.toList) rfl) rfl) ?_
    refine WL.call rfl rfl rfl (enterS eg76 (args := [v398, .agg x406.k.enc]) rfl rfl rfl rfl) (c_rfind0 _ (normAt lb) x406.k _ (hS.mem (.tail _ (.head _)))) ?_
    rintro e W409 ⟨rfl, hB⟩
    replace hS := hS.ext hB
    refine ⟨_, rfl, ?_⟩
    refine WL.op (v := .tuple #[.agg ((look ((normAt lb).map kvp) x406.k).getD Vl.zero).enc, .bool ((look ((normAt lb).map kvp) x406.k).isSome)]) rfl rfl rfl (Ex.move rfl rfl) ?_
    refine WL.op (v := .agg ((look ((normAt lb).map kvp) x406.k).getD Vl.zero).enc) rfl rfl rfl (Ex.extract rfl rfl rfl) ?_
    refine WL.op (v := .bool ((look ((normAt lb).map kvp) x406.k).isSome)) rfl rfl rfl (Ex.extract rfl rfl rfl) ?_
    refine WL.alloc zv67 hS rfl rfl rfl rfl (fun b410 W411 hS => ?_)
    refine WL.store tySz67 hS 0 rfl rfl rfl rfl rfl rfl rfl rfl rfl (C' := ((look ((normAt lb).map kvp) x406.k).getD Vl.zero).enc) rfl ((b410, .cells ((look ((normAt lb).map kvp) x406.k).getD Vl.zero).enc 67) :: []) rfl (fun W412 hS => ?_)
    refine WL.op (v := .bool ((look ((normAt lb).map kvp) x406.k).isSome)) rfl rfl rfl (Ex.assign rfl rfl) ?_
    refine WL.nil ?_
    refine then_normal ?_
    refine WP.seq ?_
    rcases Bool.eq_false_or_eq_true (!((look ((normAt lb).map kvp) x406.k).isSome)) with hg413 | hg413
    ·
      have hc414 : ((look ((normAt lb).map kvp) x406.k).isSome) = false := by simpa using hg413
      refine WP.drawL 12 [(fun u_ _ => u_ = .bool ((look ((normAt lb).map kvp) x406.k).isSome)), (fun u_ _ => u_ = .bool (!((look ((normAt lb).map kvp) x406.k).isSome))), (fun u_ _ => u_ = .bool (!((look ((normAt lb).map kvp) x406.k).isSome))), (fun u_ _ => u_ = undef), (fun u_ _ => u_ = undef), (fun u_ _ => u_ = undef), (fun u_ _ => u_ = undef), (fun u_ _ => u_ = undef), (fun u_ _ => u_ = undef), (fun u_ _ => u_ = undef), (fun u_ _ => u_ = undef), (fun u_ _ => u_ = .bool true)] (fun vs => (39, vs 11) :: (38, vs 10) :: (37, vs 9) :: (36, vs 8) :: (35, vs 7) :: (34, vs 6) :: (33, vs 5) :: (32, vs 4) :: (31, vs 3) :: (30, vs 2) :: (29, vs 1) :: (28, vs 0) :: _) ⟨fun _ _ _ _ h => h, fun _ _ _ _ h => h, fun _ _ _ _ h => h, fun _ _ _ _ h => h, fun _ _ _ _ h => h, fun _ _ _ _ h => h, fun _ _ _ _ h => h, fun _ _ _ _ h => h, fun _ _ _ _ h => h, fun _ _ _ _ h => h, fun _ _ _ _ h => h, fun _ _ _ _ h => h, trivial⟩ (by kernel_rfl) (fun _ => rfl) ⟨?_, ?_, ?_, ?_, ?_, ?_, ?_, ?_, ?_, ?_, ?_, ?_, trivial⟩ ?_
      ·
        intro vs W hE hp
        exact dr_plain rfl (dr_ex (v := .bool ((look ((normAt lb).map kvp) x406.k).isSome)) (Ex.move rfl rfl) (Bw.refl _) rfl)
      ·
        intro vs W hE hp
        have p0 := hp 0 (by kernel_rfl)
        simp only [List.getD_cons_zero, List.getD_cons_succ] at p0
        exact dr_plain rfl (dr_ex (v := .bool (!((look ((normAt lb).map kvp) x406.k).isSome))) (Ex.not rfl p0) (Bw.refl _) rfl)
      ·
        intro vs W hE hp
        have p1 := hp 1 (by kernel_rfl)
        simp only [List.getD_cons_zero, List.getD_cons_succ] at p1
        exact dr_plain rfl (dr_ex (v := .bool (!((look ((normAt lb).map kvp) x406.k).isSome))) (Ex.move rfl p1) (Bw.refl _) rfl)
      ·
        intro vs W hE hp
        have p2 := hp 2 (by kernel_rfl)
        simp only [List.getD_cons_zero, List.getD_cons_succ] at p2
        exact dr_off rfl rfl rfl p2 (congrArg Value.bool hg413) rfl rfl
      ·
        intro vs W hE hp
        have p2 := hp 2 (by kernel_rfl)
        simp only [List.getD_cons_zero, List.getD_cons_succ] at p2
        exact dr_off rfl rfl rfl p2 (congrArg Value.bool hg413) rfl rfl
      ·
        intro vs W hE hp
        have p2 := hp 2 (by kernel_rfl)
        simp only [List.getD_cons_zero, List.getD_cons_succ] at p2
        exact dr_off rfl rfl rfl p2 (congrArg Value.bool hg413) rfl rfl
      ·
        intro vs W hE hp
        have p2 := hp 2 (by kernel_rfl)
        simp only [List.getD_cons_zero, List.getD_cons_succ] at p2
        have p4 := hp 4 (by kernel_rfl)
        simp only [List.getD_cons_zero, List.getD_cons_succ] at p4
        have p5 := hp 5 (by kernel_rfl)
        simp only [List.getD_cons_zero, List.getD_cons_succ] at p5
        exact dr_off rfl rfl rfl p2 (congrArg Value.bool hg413) rfl rfl
      ·
        intro vs W hE hp
        have p2 := hp 2 (by kernel_rfl)
        simp only [List.getD_cons_zero, List.getD_cons_succ] at p2
        have p6 := hp 6 (by kernel_rfl)
        simp only [List.getD_cons_zero, List.getD_cons_succ] at p6
        exact dr_off rfl rfl rfl p2 (congrArg Value.bool hg413) rfl rfl
      ·
        intro vs W hE hp
        have p2 := hp 2 (by kernel_rfl)
        simp only [List.getD_cons_zero, List.getD_cons_succ] at p2
        have p7 := hp 7 (by kernel_rfl)
        simp only [List.getD_cons_zero, List.getD_cons_succ] at p7
        exact dr_off rfl rfl rfl p2 (congrArg Value.bool hg413) rfl rfl
      ·
        intro vs W hE hp
        have p2 := hp 2 (by kernel_rfl)
        simp only [List.getD_cons_zero, List.getD_cons_succ] at p2
        have p3 := hp 3 (by kernel_rfl)
        simp only [List.getD_cons_zero, List.getD_cons_succ] at p3
        have p8 := hp 8 (by kernel_rfl)
        simp only [List.getD_cons_zero, List.getD_cons_succ] at p8
        exact dr_off rfl rfl rfl p2 (congrArg Value.bool hg413) rfl rfl
      ·
        intro vs W hE hp
        have p2 := hp 2 (by kernel_rfl)
        simp only [List.getD_cons_zero, List.getD_cons_succ] at p2
        have p9 := hp 9 (by kernel_rfl)
        simp only [List.getD_cons_zero, List.getD_cons_succ] at p9
        exact dr_off rfl rfl rfl p2 (congrArg Value.bool hg413) rfl rfl
      ·
        intro vs W hE hp
        have p2 := hp 2 (by kernel_rfl)
        simp only [List.getD_cons_zero, List.getD_cons_succ] at p2
        have p10 := hp 10 (by kernel_rfl)
        simp only [List.getD_cons_zero, List.getD_cons_succ] at p10
        exact dr_plain rfl (dr_ex (v := .bool true) (Ex.pickT rfl (p2.trans (congrArg Value.bool hg413)) rfl) (Bw.refl _) rfl)
      intro vs W415 hE hv
      have hS0 := hS; replace hS := hS.ext hE
      have p0 : vs 0 = .bool ((look ((normAt lb).map kvp) x406.k).isSome) := hv 0 (by decide)
      have p1 : vs 1 = .bool (!((look ((normAt lb).map kvp) x406.k).isSome)) := hv 1 (by decide)
      have p2 : vs 2 = .bool (!((look ((normAt lb).map kvp) x406.k).isSome)) := hv 2 (by decide)
      have p11 : vs 11 = .bool true := hv 11 (by decide)
      refine WL.keep (k := [(28, .bool ((look ((normAt lb).map kvp) x406.k).isSome)), (29, .bool (!((look ((normAt lb).map kvp) x406.k).isSome))), (30, .bool (!((look ((normAt lb).map kvp) x406.k).isSome))), (39, .bool true)]) ⟨p0, p1, p2, p11, trivial⟩ ?_
      refine WL.nil ?_
      refine then_normal ?_
      refine WP.condT rfl ?_
      refine WP.seq ?_
      refine WP.region ?_
      refine WL.op (v := .bool false) rfl rfl rfl (Ex.assign rfl rfl) ?_
      refine WL.nil ?_
      refine then_normal ?_
      refine WP.ret ?_
      refine inBlock_ret (then_ret (then_ret (inBlock_ret (then_ret (?_)))))
      refine rt1 (v := .bool false) rfl rfl ?_
      exact ⟨retb (all_not hx407 (belowM_none hc414)).symm, hS.bw⟩
    ·
      have hc416 : ((look ((normAt lb).map kvp) x406.k).isSome) = true := by simpa using hg413
      refine WP.drawL 12 [(fun u_ _ => u_ = .bool ((look ((normAt lb).map kvp) x406.k).isSome)), (fun u_ _ => u_ = .bool (!((look ((normAt lb).map kvp) x406.k).isSome))), (fun u_ _ => u_ = .bool (!((look ((normAt lb).map kvp) x406.k).isSome))), (fun u_ _ => u_ = .agg ((look ((normAt lb).map kvp) x406.k).getD Vl.zero).enc), (fun u_ _ => u_ = v395), (fun u_ _ => u_ = .int .i64 (k : Int)), (fun u_ _ => u_ = .pointer (some ⟨b404, po405, none⟩)), (fun u_ _ => u_ = .pointer (some ⟨b404, po405 + 12, none⟩)), (fun u_ _ => u_ = .agg x406.v.enc), (fun u_ _ => u_ = .bool (((look ((normAt lb).map kvp) x406.k).getD Vl.zero).over x406.v)), (fun u_ _ => u_ = .bool (!(((look ((normAt lb).map kvp) x406.k).getD Vl.zero).over x406.v))), (fun u_ _ => u_ = .bool (!(((look ((normAt lb).map kvp) x406.k).getD Vl.zero).over x406.v)))] (fun vs => (39, vs 11) :: (38, vs 10) :: (37, vs 9) :: (36, vs 8) :: (35, vs 7) :: (34, vs 6) :: (33, vs 5) :: (32, vs 4) :: (31, vs 3) :: (30, vs 2) :: (29, vs 1) :: (28, vs 0) :: _) ⟨fun _ _ _ _ h => h, fun _ _ _ _ h => h, fun _ _ _ _ h => h, fun _ _ _ _ h => h, fun _ _ _ _ h => h, fun _ _ _ _ h => h, fun _ _ _ _ h => h, fun _ _ _ _ h => h, fun _ _ _ _ h => h, fun _ _ _ _ h => h, fun _ _ _ _ h => h, fun _ _ _ _ h => h, trivial⟩ (by kernel_rfl) (fun _ => rfl) ⟨?_, ?_, ?_, ?_, ?_, ?_, ?_, ?_, ?_, ?_, ?_, ?_, trivial⟩ ?_
      ·
        intro vs W hE hp
        exact dr_plain rfl (dr_ex (v := .bool ((look ((normAt lb).map kvp) x406.k).isSome)) (Ex.move rfl rfl) (Bw.refl _) rfl)
      ·
        intro vs W hE hp
        have p0 := hp 0 (by kernel_rfl)
        simp only [List.getD_cons_zero, List.getD_cons_succ] at p0
        exact dr_plain rfl (dr_ex (v := .bool (!((look ((normAt lb).map kvp) x406.k).isSome))) (Ex.not rfl p0) (Bw.refl _) rfl)
      ·
        intro vs W hE hp
        have p1 := hp 1 (by kernel_rfl)
        simp only [List.getD_cons_zero, List.getD_cons_succ] at p1
        exact dr_plain rfl (dr_ex (v := .bool (!((look ((normAt lb).map kvp) x406.k).isSome))) (Ex.move rfl p1) (Bw.refl _) rfl)
      ·
        intro vs W hE hp
        have p2 := hp 2 (by kernel_rfl)
        simp only [List.getD_cons_zero, List.getD_cons_succ] at p2
        exact dr_on rfl rfl rfl p2 (congrArg Value.bool hg413) (dr_ex (v := .agg ((look ((normAt lb).map kvp) x406.k).getD Vl.zero).enc) (Ex.loadA tyAgg67 rfl rfl (Reads.of_block ((hS.ext hE).at 0 rfl) 0 ((look ((normAt lb).map kvp) x406.k).getD Vl.zero).enc.toList rfl) rfl) (Bw.refl _) rfl)
      ·
        intro vs W hE hp
        have p2 := hp 2 (by kernel_rfl)
        simp only [List.getD_cons_zero, List.getD_cons_succ] at p2
        exact dr_on rfl rfl rfl p2 (congrArg Value.bool hg413) (dr_ex (v := v395) (Ex.move rfl rfl) (Bw.refl _) rfl)
      ·
        intro vs W hE hp
        have p2 := hp 2 (by kernel_rfl)
        simp only [List.getD_cons_zero, List.getD_cons_succ] at p2
        exact dr_on rfl rfl rfl p2 (congrArg Value.bool hg413) (dr_ex (v := .int .i64 (k : Int)) (Ex.move rfl rfl) (Bw.refl _) rfl)
      ·
        intro vs W hE hp
        have p2 := hp 2 (by kernel_rfl)
        simp only [List.getD_cons_zero, List.getD_cons_succ] at p2
        have p4 := hp 4 (by kernel_rfl)
        simp only [List.getD_cons_zero, List.getD_cons_succ] at p4
        have p5 := hp 5 (by kernel_rfl)
        simp only [List.getD_cons_zero, List.getD_cons_succ] at p5
        exact dr_on rfl rfl rfl p2 (congrArg Value.bool hg413) (dr_ex (v := .pointer (some ⟨b404, po405, none⟩)) (Ex.indexC hi408 rfl p4 p5) (Bw.refl _) rfl)
      ·
        intro vs W hE hp
        have p2 := hp 2 (by kernel_rfl)
        simp only [List.getD_cons_zero, List.getD_cons_succ] at p2
        have p6 := hp 6 (by kernel_rfl)
        simp only [List.getD_cons_zero, List.getD_cons_succ] at p6
        exact dr_on rfl rfl rfl p2 (congrArg Value.bool hg413) (dr_ex (v := .pointer (some ⟨b404, po405 + 12, none⟩)) (Ex.fieldAddr' fieldAt71_1 rfl p6) (Bw.refl _) rfl)
      ·
        intro vs W hE hp
        have p2 := hp 2 (by kernel_rfl)
        simp only [List.getD_cons_zero, List.getD_cons_succ] at p2
        have p7 := hp 7 (by kernel_rfl)
        simp only [List.getD_cons_zero, List.getD_cons_succ] at p7
        exact dr_on rfl rfl rfl p2 (congrArg Value.bool hg413) (dr_ex (v := .agg x406.v.enc) (Ex.loadA tyAgg67 rfl p7 (Reads.sub (cs := x406.enc.toList) ((hS.ext hE).get 0 rfl) 12 (ds := x406.v.enc.toList) rfl) rfl) (Bw.refl _) rfl)
      ·
        intro vs W hE hp
        have p2 := hp 2 (by kernel_rfl)
        simp only [List.getD_cons_zero, List.getD_cons_succ] at p2
        have p3 := hp 3 (by kernel_rfl)
        simp only [List.getD_cons_zero, List.getD_cons_succ] at p3
        have p8 := hp 8 (by kernel_rfl)
        simp only [List.getD_cons_zero, List.getD_cons_succ] at p8
        exact dr_on rfl rfl rfl p2 (congrArg Value.bool hg413) (dr_callS (v := .bool (((look ((normAt lb).map kvp) x406.k).getD Vl.zero).over x406.v)) (enterS eg77 (args := [.agg ((look ((normAt lb).map kvp) x406.k).getD Vl.zero).enc, .agg x406.v.enc]) rfl rfl rfl (l2 p3 p8)) (c_rover ((look ((normAt lb).map kvp) x406.k).getD Vl.zero) x406.v _) (fun _ => rfl))
      ·
        intro vs W hE hp
        have p2 := hp 2 (by kernel_rfl)
        simp only [List.getD_cons_zero, List.getD_cons_succ] at p2
        have p9 := hp 9 (by kernel_rfl)
        simp only [List.getD_cons_zero, List.getD_cons_succ] at p9
        exact dr_on rfl rfl rfl p2 (congrArg Value.bool hg413) (dr_ex (v := .bool (!(((look ((normAt lb).map kvp) x406.k).getD Vl.zero).over x406.v))) (Ex.not rfl p9) (Bw.refl _) rfl)
      ·
        intro vs W hE hp
        have p2 := hp 2 (by kernel_rfl)
        simp only [List.getD_cons_zero, List.getD_cons_succ] at p2
        have p10 := hp 10 (by kernel_rfl)
        simp only [List.getD_cons_zero, List.getD_cons_succ] at p10
        exact dr_plain rfl (dr_ex (v := .bool (!(((look ((normAt lb).map kvp) x406.k).getD Vl.zero).over x406.v))) (Ex.pickF rfl (p2.trans (congrArg Value.bool hg413)) p10) (Bw.refl _) rfl)
      intro vs W417 hE hv
      have hS0 := hS; replace hS := hS.ext hE
      have p0 : vs 0 = .bool ((look ((normAt lb).map kvp) x406.k).isSome) := hv 0 (by decide)
      have p1 : vs 1 = .bool (!((look ((normAt lb).map kvp) x406.k).isSome)) := hv 1 (by decide)
      have p2 : vs 2 = .bool (!((look ((normAt lb).map kvp) x406.k).isSome)) := hv 2 (by decide)
      have p3 : vs 3 = .agg ((look ((normAt lb).map kvp) x406.k).getD Vl.zero).enc := hv 3 (by decide)
      have p4 : vs 4 = v395 := hv 4 (by decide)
      have p5 : vs 5 = .int .i64 (k : Int) := hv 5 (by decide)
      have p6 : vs 6 = .pointer (some ⟨b404, po405, none⟩) := hv 6 (by decide)
      have p7 : vs 7 = .pointer (some ⟨b404, po405 + 12, none⟩) := hv 7 (by decide)
      have p8 : vs 8 = .agg x406.v.enc := hv 8 (by decide)
      have p9 : vs 9 = .bool (((look ((normAt lb).map kvp) x406.k).getD Vl.zero).over x406.v) := hv 9 (by decide)
      have p10 : vs 10 = .bool (!(((look ((normAt lb).map kvp) x406.k).getD Vl.zero).over x406.v)) := hv 10 (by decide)
      have p11 : vs 11 = .bool (!(((look ((normAt lb).map kvp) x406.k).getD Vl.zero).over x406.v)) := hv 11 (by decide)
      refine WL.keep (k := [(28, .bool ((look ((normAt lb).map kvp) x406.k).isSome)), (29, .bool (!((look ((normAt lb).map kvp) x406.k).isSome))), (30, .bool (!((look ((normAt lb).map kvp) x406.k).isSome))), (31, .agg ((look ((normAt lb).map kvp) x406.k).getD Vl.zero).enc), (32, v395), (33, .int .i64 (k : Int)), (34, .pointer (some ⟨b404, po405, none⟩)), (35, .pointer (some ⟨b404, po405 + 12, none⟩)), (36, .agg x406.v.enc), (37, .bool (((look ((normAt lb).map kvp) x406.k).getD Vl.zero).over x406.v)), (38, .bool (!(((look ((normAt lb).map kvp) x406.k).getD Vl.zero).over x406.v))), (39, .bool (!(((look ((normAt lb).map kvp) x406.k).getD Vl.zero).over x406.v)))]) ⟨p0, p1, p2, p3, p4, p5, p6, p7, p8, p9, p10, p11, trivial⟩ ?_
      refine WL.nil ?_
      refine then_normal ?_
      refine WP.cond (b := !(((look ((normAt lb).map kvp) x406.k).getD Vl.zero).over x406.v)) rfl (fun hc418 => ?_) (fun hc418 => ?_)
      ·
        have hc419 : (((look ((normAt lb).map kvp) x406.k).getD Vl.zero).over x406.v) = false := by simpa using hc418
        refine WP.seq ?_
        refine WP.region ?_
        refine WL.op (v := .bool false) rfl rfl rfl (Ex.assign rfl rfl) ?_
        refine WL.nil ?_
        refine then_normal ?_
        refine WP.ret ?_
        refine inBlock_ret (then_ret (then_ret (inBlock_ret (then_ret (?_)))))
        refine rt1 (v := .bool false) rfl rfl ?_
        exact ⟨retb (all_not hx407 ((belowM_some hc416).trans hc419)).symm, hS.bw⟩
      ·
        have hc420 : (((look ((normAt lb).map kvp) x406.k).getD Vl.zero).over x406.v) = true := by simpa using hc418
        refine WP.skip ?_
        refine inBlock_normal ?_
        refine then_normal ?_
        refine WP.region ?_
        refine WL.op (v := .int .i64 (k : Int)) rfl rfl rfl (Ex.move rfl rfl) ?_
        refine WL.op (v := .int .i64 ((k + 1 : Nat) : Int)) rfl rfl rfl (Ex.add rfl rfl rfl (wrap_succ (by omega))) ?_
        refine WL.op (v := .int .i64 ((k + 1 : Nat) : Int)) rfl rfl rfl (Ex.assign rfl rfl) ?_
        refine WL.nil ?_
        refine then_normal ?_
        exact ⟨_, ⟨k + 1, _, fr_keep ⟨rfl, rfl, rfl, trivial⟩, rfl, by omega, hS.drop 1 1, all_next hx407 hall ((belowM_some hc416).trans hc420)⟩, by simp only [id]; omega⟩
  ·
    have hc403' : ¬ ((k : Int) < ((normAt la).length : Int)) := by simpa using hc403
    refine WP.exit ?_
    refine then_exit (then_exit (inBlock_same (?_)))
    refine then_normal ?_
    refine WP.seq ?_
    refine WP.region ?_
    refine WL.op (v := .bool true) rfl rfl rfl (Ex.assign rfl rfl) ?_
    refine WL.nil ?_
    refine then_normal ?_
    refine WP.ret ?_
    refine ?_
    refine rt1 (v := .bool true) rfl rfl ?_
    exact ⟨retb (by rw [show k = (normAt la).length by omega, List.take_length] at hall; exact hall.symm), hS.bw⟩
set_option maxRecDepth 100000 in
set_option maxHeartbeats 1000000 in
theorem c_rsame (v v2 : Value) (la lb : List At) (w : World) (ha : Sl w v la) (hb : Sl w v2 lb) (hl : la.length ≤ 1048576) (hl2 : lb.length ≤ 1048576) :
    Calls Try.prog 23 #[v, v2] w fun e w' => e = .returned (.bool (decide (normAt la = normAt lb))) ∧ Bw w w' := by
  have hS := St.begin (w := w) (pins := pinSl v la :: pinSl v2 lb :: []) ⟨ha, hb, trivial⟩
  refine enter (n := 10) Try.func23 rfl rfl (Nat.le_of_ble_eq_true rfl) (l := [(0, v), (1, v2)]) rfl ?_
  refine WP.seq ?_
  refine WP.region ?_
  refine WL.op (v := .bool false) rfl rfl rfl (Ex.assign rfl rfl) ?_
  refine WL.nil ?_
  refine then_normal ?_
  refine WP.seq ?_
  refine WP.region ?_
  refine WL.op (v := v) rfl rfl rfl (Ex.move rfl rfl) ?_
  refine WL.call rfl rfl rfl (enterS eg66 (args := [v]) rfl rfl rfl rfl) (c_rnorm _ la _ (hS.mem (.head _)) (by first | omega | (simp; done) | (simp; omega))) ?_
  rintro e W422 ⟨v421, rfl, hB, hv', hn'⟩
  replace hS := hS.pinOr (l' := normAt la) hB (.head _) hv' hn'
  refine ⟨_, rfl, ?_⟩
  have hq423 := normAt_length la
  refine WL.op (v := v2) rfl rfl rfl (Ex.move rfl rfl) ?_
  refine WL.call rfl rfl rfl (enterS eg66 (args := [v2]) rfl rfl rfl rfl) (c_rnorm _ lb _ (hS.mem (.tail _ (.tail _ (.head _)))) (by first | omega | (simp; done) | (simp; omega))) ?_
  rintro e W425 ⟨v424, rfl, hB, hv', hn'⟩
  replace hS := hS.pinOr (l' := normAt lb) hB (.tail _ (.tail _ (.head _))) hv' hn'
  refine ⟨_, rfl, ?_⟩
  have hq426 := normAt_length lb
  refine WL.call rfl rfl rfl (enterS eg15 (args := [v421, v424]) rfl rfl rfl rfl) (c_rows _ _ (normAt la) (normAt lb) _ (hS.mem (.tail _ (.head _))) (hS.mem (.head _))) ?_
  rintro e W427 ⟨rfl, hB⟩
  replace hS := hS.ext hB
  refine ⟨_, rfl, ?_⟩
  refine WL.op (v := .bool (decide (normAt la = normAt lb))) rfl rfl rfl (Ex.assign rfl rfl) ?_
  refine WL.nil ?_
  refine then_normal ?_
  refine WP.ret ?_
  refine ?_
  refine rt1 (v := .bool (decide (normAt la = normAt lb))) rfl rfl ?_
  exact ⟨rfl, hS.bw⟩
end Go.Proofs.Ythidakffgcjjiaa
