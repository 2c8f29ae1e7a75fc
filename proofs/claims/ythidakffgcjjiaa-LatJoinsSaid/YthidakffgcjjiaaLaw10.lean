/- The walks of the statements of layer 10. -/
import Derived.Test.YthidakffgcjjiaaLat2
import Derived.Test.YthidakffgcjjiaaLaws
namespace Go.Proofs.Ythidakffgcjjiaa
open Go.RowKit Go.Sort

set_option maxRecDepth 100000 in
set_option maxHeartbeats 1000000 in
theorem c_alive10 (w : World) :
    Calls Try.prog 14 #[] w fun e w' => e = .returned (.bool true) ∧ Bw w w' := by
  have hS := St.begin (w := w) (pins := []) trivial
  refine enter (n := 30) Try.func14 rfl rfl (Nat.le_of_ble_eq_true rfl) (l := []) rfl ?_
  refine WP.seq ?_
  refine WP.region ?_
  refine WL.op (v := .bool false) rfl rfl rfl (Ex.assign rfl rfl) ?_
  refine WL.nil ?_
  refine then_normal ?_
  refine WP.seq ?_
  refine WP.region ?_
  refine WL.op (v := .agg (Nm.mk (97 : UInt8) 0 0 0 0 0 0 0).enc) rfl rfl rfl (Ex.build (ps := [(0, .int .u8 97)]) rfl rfl (by kernel_rfl)) ?_
  refine WL.op (v := .agg (Ky.mk (1 : UInt8) (1 : UInt16) (Nm.mk (97 : UInt8) 0 0 0 0 0 0 0) (2 : UInt8) (3 : UInt32)).enc) rfl rfl rfl (Ex.build (ps := [(0, .int .u8 1), (1, .int .u16 1), (2, .agg (Nm.mk (97 : UInt8) 0 0 0 0 0 0 0).enc), (3, .int .u8 2), (4, .int .u32 3)]) rfl rfl (by kernel_rfl)) ?_
  refine WL.alloc zv61 hS rfl rfl rfl rfl (fun b187 W188 hS => ?_)
  refine WL.store tySz61 hS 0 rfl rfl rfl rfl rfl rfl rfl rfl rfl (C' := (Ky.mk (1 : UInt8) (1 : UInt16) (Nm.mk (97 : UInt8) 0 0 0 0 0 0 0) (2 : UInt8) (3 : UInt32)).enc) rfl ((b187, .cells (Ky.mk (1 : UInt8) (1 : UInt16) (Nm.mk (97 : UInt8) 0 0 0 0 0 0 0) (2 : UInt8) (3 : UInt32)).enc 61) :: []) rfl (fun W189 hS => ?_)
  refine WL.nil ?_
  refine then_normal ?_
  refine WP.seq ?_
  refine WP.drawL 10 [(fun v W => v = .agg (Ky.mk (1 : UInt8) (1 : UInt16) (Nm.mk (97 : UInt8) 0 0 0 0 0 0 0) (2 : UInt8) (3 : UInt32)).enc), (fun v W => v = .agg (Vl.mk (1 : UInt64) Nm.zero).enc), (fun v W => v = .agg (At.mk (Ky.mk (1 : UInt8) (1 : UInt16) (Nm.mk (97 : UInt8) 0 0 0 0 0 0 0) (2 : UInt8) (3 : UInt32)) (Vl.mk (1 : UInt64) Nm.zero)).enc), (fun v W => Sl W v [At.mk (Ky.mk (1 : UInt8) (1 : UInt16) (Nm.mk (97 : UInt8) 0 0 0 0 0 0 0) (2 : UInt8) (3 : UInt32)) (Vl.mk (1 : UInt64) Nm.zero)] ∧ New W189 v), (fun v W => v = .agg (Ky.mk (1 : UInt8) (1 : UInt16) (Nm.mk (97 : UInt8) 0 0 0 0 0 0 0) (2 : UInt8) (3 : UInt32)).enc), (fun v W => v = .agg (Vl.mk (2 : UInt64) Nm.zero).enc), (fun v W => v = .agg (At.mk (Ky.mk (1 : UInt8) (1 : UInt16) (Nm.mk (97 : UInt8) 0 0 0 0 0 0 0) (2 : UInt8) (3 : UInt32)) (Vl.mk (2 : UInt64) Nm.zero)).enc), (fun v W => Sl W v [At.mk (Ky.mk (1 : UInt8) (1 : UInt16) (Nm.mk (97 : UInt8) 0 0 0 0 0 0 0) (2 : UInt8) (3 : UInt32)) (Vl.mk (2 : UInt64) Nm.zero)] ∧ New W189 v), (fun v W => Sl W v [At.mk (Ky.mk (1 : UInt8) (1 : UInt16) (Nm.mk (97 : UInt8) 0 0 0 0 0 0 0) (2 : UInt8) (3 : UInt32)) (Vl.mk (1 : UInt64) Nm.zero)] ∧ New W189 v), (fun v W => Sl W v [At.mk (Ky.mk (1 : UInt8) (1 : UInt16) (Nm.mk (97 : UInt8) 0 0 0 0 0 0 0) (2 : UInt8) (3 : UInt32)) (Vl.mk (2 : UInt64) Nm.zero)] ∧ New W189 v)] (fun vs => (3, vs 9) :: (2, vs 8) :: (13, vs 7) :: (12, vs 6) :: (11, vs 5) :: (10, vs 4) :: (9, vs 3) :: (8, vs 2) :: (7, vs 1) :: (6, vs 0) :: _) ⟨fun _ _ _ _ h => h, fun _ _ _ _ h => h, fun _ _ _ _ h => h, mono_sl, fun _ _ _ _ h => h, fun _ _ _ _ h => h, fun _ _ _ _ h => h, mono_sl, mono_sl, mono_sl, trivial⟩ (by kernel_rfl) (fun _ => rfl) ⟨?_, ?_, ?_, ?_, ?_, ?_, ?_, ?_, ?_, ?_, trivial⟩ ?_
  ·
    intro vs W hE hp
    exact dr_plain rfl (dr_ex (v := .agg (Ky.mk (1 : UInt8) (1 : UInt16) (Nm.mk (97 : UInt8) 0 0 0 0 0 0 0) (2 : UInt8) (3 : UInt32)).enc) (Ex.loadA tyAgg61 rfl rfl (Reads.of_block ((hS.ext hE).at 0 rfl) 0 (Ky.mk (1 : UInt8) (1 : UInt16) (Nm.mk (97 : UInt8) 0 0 0 0 0 0 0) (2 : UInt8) (3 : UInt32)).enc.toList rfl) rfl) (Bw.refl _) rfl)
  ·
    intro vs W hE hp
    exact dr_plain rfl (dr_ex (v := .agg (Vl.mk (1 : UInt64) Nm.zero).enc) (Ex.build (ps := [(0, .int .u64 1)]) rfl rfl (by kernel_rfl)) (Bw.refl _) rfl)
  ·
    intro vs W hE hp
    have p0 := hp 0 (by kernel_rfl)
    simp only [List.getD_cons_zero, List.getD_cons_succ] at p0
    have p1 := hp 1 (by kernel_rfl)
    simp only [List.getD_cons_zero, List.getD_cons_succ] at p1
    exact dr_plain rfl (dr_ex (v := .agg (At.mk (Ky.mk (1 : UInt8) (1 : UInt16) (Nm.mk (97 : UInt8) 0 0 0 0 0 0 0) (2 : UInt8) (3 : UInt32)) (Vl.mk (1 : UInt64) Nm.zero)).enc) (Ex.build (ps := [(0, .agg (Ky.mk (1 : UInt8) (1 : UInt16) (Nm.mk (97 : UInt8) 0 0 0 0 0 0 0) (2 : UInt8) (3 : UInt32)).enc), (1, .agg (Vl.mk (1 : UInt64) Nm.zero).enc)]) rfl (m2 p0 p1) (by kernel_rfl)) (Bw.refl _) rfl)
  ·
    intro vs W hE hp
    have p2 := hp 2 (by kernel_rfl)
    simp only [List.getD_cons_zero, List.getD_cons_succ] at p2
    exact dr_plain rfl (dr_slice1 rfl (m1 p2) (fun _ _ => by kernel_rfl) hE)
  ·
    intro vs W hE hp
    exact dr_plain rfl (dr_ex (v := .agg (Ky.mk (1 : UInt8) (1 : UInt16) (Nm.mk (97 : UInt8) 0 0 0 0 0 0 0) (2 : UInt8) (3 : UInt32)).enc) (Ex.loadA tyAgg61 rfl rfl (Reads.of_block ((hS.ext hE).at 0 rfl) 0 (Ky.mk (1 : UInt8) (1 : UInt16) (Nm.mk (97 : UInt8) 0 0 0 0 0 0 0) (2 : UInt8) (3 : UInt32)).enc.toList rfl) rfl) (Bw.refl _) rfl)
  ·
    intro vs W hE hp
    exact dr_plain rfl (dr_ex (v := .agg (Vl.mk (2 : UInt64) Nm.zero).enc) (Ex.build (ps := [(0, .int .u64 2)]) rfl rfl (by kernel_rfl)) (Bw.refl _) rfl)
  ·
    intro vs W hE hp
    have p4 := hp 4 (by kernel_rfl)
    simp only [List.getD_cons_zero, List.getD_cons_succ] at p4
    have p5 := hp 5 (by kernel_rfl)
    simp only [List.getD_cons_zero, List.getD_cons_succ] at p5
    exact dr_plain rfl (dr_ex (v := .agg (At.mk (Ky.mk (1 : UInt8) (1 : UInt16) (Nm.mk (97 : UInt8) 0 0 0 0 0 0 0) (2 : UInt8) (3 : UInt32)) (Vl.mk (2 : UInt64) Nm.zero)).enc) (Ex.build (ps := [(0, .agg (Ky.mk (1 : UInt8) (1 : UInt16) (Nm.mk (97 : UInt8) 0 0 0 0 0 0 0) (2 : UInt8) (3 : UInt32)).enc), (1, .agg (Vl.mk (2 : UInt64) Nm.zero).enc)]) rfl (m2 p4 p5) (by kernel_rfl)) (Bw.refl _) rfl)
  ·
    intro vs W hE hp
    have p6 := hp 6 (by kernel_rfl)
    simp only [List.getD_cons_zero, List.getD_cons_succ] at p6
    exact dr_plain rfl (dr_slice1 rfl (m1 p6) (fun _ _ => by kernel_rfl) hE)
  ·
    intro vs W hE hp
    have p3 := hp 3 (by kernel_rfl)
    obtain ⟨hv3, hn3⟩ := p3; have p3 : vs 3 = vs 3 := rfl
    exact dr_plain rfl (dr_ex (v := vs 3) (Ex.assign rfl rfl) (Bw.refl _) (hp 3 (by kernel_rfl)))
  ·
    intro vs W hE hp
    have p7 := hp 7 (by kernel_rfl)
    obtain ⟨hv7, hn7⟩ := p7; have p7 : vs 7 = vs 7 := rfl
    exact dr_plain rfl (dr_ex (v := vs 7) (Ex.assign rfl rfl) (Bw.refl _) (hp 7 (by kernel_rfl)))
  intro vs W190 hE hv
  have hS0 := hS; replace hS := hS.ext hE
  have p0 : vs 0 = .agg (Ky.mk (1 : UInt8) (1 : UInt16) (Nm.mk (97 : UInt8) 0 0 0 0 0 0 0) (2 : UInt8) (3 : UInt32)).enc := hv 0 (by decide)
  have p1 : vs 1 = .agg (Vl.mk (1 : UInt64) Nm.zero).enc := hv 1 (by decide)
  have p2 : vs 2 = .agg (At.mk (Ky.mk (1 : UInt8) (1 : UInt16) (Nm.mk (97 : UInt8) 0 0 0 0 0 0 0) (2 : UInt8) (3 : UInt32)) (Vl.mk (1 : UInt64) Nm.zero)).enc := hv 2 (by decide)
  have p3 := hv 3 (by decide)
  obtain ⟨hv3, hn3⟩ := p3; have p3 : vs 3 = vs 3 := rfl
  replace hS := hS0.pinNew hS (pinSl (vs 3) [At.mk (Ky.mk (1 : UInt8) (1 : UInt16) (Nm.mk (97 : UInt8) 0 0 0 0 0 0 0) (2 : UInt8) (3 : UInt32)) (Vl.mk (1 : UInt64) Nm.zero)]) hv3 hn3
  replace p3 : vs 3 = vs 3 := rfl
  have p4 : vs 4 = .agg (Ky.mk (1 : UInt8) (1 : UInt16) (Nm.mk (97 : UInt8) 0 0 0 0 0 0 0) (2 : UInt8) (3 : UInt32)).enc := hv 4 (by decide)
  have p5 : vs 5 = .agg (Vl.mk (2 : UInt64) Nm.zero).enc := hv 5 (by decide)
  have p6 : vs 6 = .agg (At.mk (Ky.mk (1 : UInt8) (1 : UInt16) (Nm.mk (97 : UInt8) 0 0 0 0 0 0 0) (2 : UInt8) (3 : UInt32)) (Vl.mk (2 : UInt64) Nm.zero)).enc := hv 6 (by decide)
  have p7 := hv 7 (by decide)
  obtain ⟨hv7, hn7⟩ := p7; have p7 : vs 7 = vs 7 := rfl
  replace hS := hS0.pinNew hS (pinSl (vs 7) [At.mk (Ky.mk (1 : UInt8) (1 : UInt16) (Nm.mk (97 : UInt8) 0 0 0 0 0 0 0) (2 : UInt8) (3 : UInt32)) (Vl.mk (2 : UInt64) Nm.zero)]) hv7 hn7
  replace p7 : vs 7 = vs 7 := rfl
  have p8 := hv 8 (by decide)
  obtain ⟨hv8, hn8⟩ := p8; have p8 : vs 8 = vs 8 := rfl
  replace hS := hS0.pinNew hS (pinSl (vs 8) [At.mk (Ky.mk (1 : UInt8) (1 : UInt16) (Nm.mk (97 : UInt8) 0 0 0 0 0 0 0) (2 : UInt8) (3 : UInt32)) (Vl.mk (1 : UInt64) Nm.zero)]) hv8 hn8
  replace p8 : vs 8 = vs 8 := rfl
  have p9 := hv 9 (by decide)
  obtain ⟨hv9, hn9⟩ := p9; have p9 : vs 9 = vs 9 := rfl
  replace hS := hS0.pinNew hS (pinSl (vs 9) [At.mk (Ky.mk (1 : UInt8) (1 : UInt16) (Nm.mk (97 : UInt8) 0 0 0 0 0 0 0) (2 : UInt8) (3 : UInt32)) (Vl.mk (2 : UInt64) Nm.zero)]) hv9 hn9
  replace p9 : vs 9 = vs 9 := rfl
  refine WL.keep (k := [(6, .agg (Ky.mk (1 : UInt8) (1 : UInt16) (Nm.mk (97 : UInt8) 0 0 0 0 0 0 0) (2 : UInt8) (3 : UInt32)).enc), (7, .agg (Vl.mk (1 : UInt64) Nm.zero).enc), (8, .agg (At.mk (Ky.mk (1 : UInt8) (1 : UInt16) (Nm.mk (97 : UInt8) 0 0 0 0 0 0 0) (2 : UInt8) (3 : UInt32)) (Vl.mk (1 : UInt64) Nm.zero)).enc), (9, (vs 3)), (10, .agg (Ky.mk (1 : UInt8) (1 : UInt16) (Nm.mk (97 : UInt8) 0 0 0 0 0 0 0) (2 : UInt8) (3 : UInt32)).enc), (11, .agg (Vl.mk (2 : UInt64) Nm.zero).enc), (12, .agg (At.mk (Ky.mk (1 : UInt8) (1 : UInt16) (Nm.mk (97 : UInt8) 0 0 0 0 0 0 0) (2 : UInt8) (3 : UInt32)) (Vl.mk (2 : UInt64) Nm.zero)).enc), (13, (vs 7)), (2, (vs 8)), (3, (vs 9))]) ⟨p0, p1, p2, p3, p4, p5, p6, p7, p8, p9, trivial⟩ ?_
  refine WL.nil ?_
  refine then_normal ?_
  refine WP.seq ?_
  refine WP.region ?_
  refine WL.op (v := (vs 8)) rfl rfl rfl (Ex.move rfl rfl) ?_
  refine WL.op (v := (vs 9)) rfl rfl rfl (Ex.move rfl rfl) ?_
  refine WL.call rfl rfl rfl (enterS eg16 (args := [(vs 8), (vs 9)]) rfl rfl rfl rfl) (c_join _ _ ([At.mk (Ky.mk (1 : UInt8) (1 : UInt16) (Nm.mk (97 : UInt8) 0 0 0 0 0 0 0) (2 : UInt8) (3 : UInt32)) (Vl.mk (1 : UInt64) Nm.zero)]) ([At.mk (Ky.mk (1 : UInt8) (1 : UInt16) (Nm.mk (97 : UInt8) 0 0 0 0 0 0 0) (2 : UInt8) (3 : UInt32)) (Vl.mk (2 : UInt64) Nm.zero)]) _ (hS.mem (.tail _ (.head _))) (hS.mem (.head _)) (by first | omega | (simp; done) | (simp; omega))) ?_
  rintro e W193 ⟨v191, rfl, hB, hv', hn'⟩
  have hN192 : New w v191 := fun b hb => Nat.le_trans hS.bw.size (hn' b hb)
  replace hS := hS.newPin hB (pinSl v191 (normAt ([At.mk (Ky.mk (1 : UInt8) (1 : UInt16) (Nm.mk (97 : UInt8) 0 0 0 0 0 0 0) (2 : UInt8) (3 : UInt32)) (Vl.mk (1 : UInt64) Nm.zero)] ++ [At.mk (Ky.mk (1 : UInt8) (1 : UInt16) (Nm.mk (97 : UInt8) 0 0 0 0 0 0 0) (2 : UInt8) (3 : UInt32)) (Vl.mk (2 : UInt64) Nm.zero)]))) hv' hn'
  refine ⟨_, rfl, ?_⟩
  have hq194 := normAt_len2 ([At.mk (Ky.mk (1 : UInt8) (1 : UInt16) (Nm.mk (97 : UInt8) 0 0 0 0 0 0 0) (2 : UInt8) (3 : UInt32)) (Vl.mk (1 : UInt64) Nm.zero)]) ([At.mk (Ky.mk (1 : UInt8) (1 : UInt16) (Nm.mk (97 : UInt8) 0 0 0 0 0 0 0) (2 : UInt8) (3 : UInt32)) (Vl.mk (2 : UInt64) Nm.zero)])
  refine WL.op (v := (vs 9)) rfl rfl rfl (Ex.move rfl rfl) ?_
  refine WL.call rfl rfl rfl (enterS eg15 (args := [v191, (vs 9)]) rfl rfl rfl rfl) (c_rows _ _ (normAt ([At.mk (Ky.mk (1 : UInt8) (1 : UInt16) (Nm.mk (97 : UInt8) 0 0 0 0 0 0 0) (2 : UInt8) (3 : UInt32)) (Vl.mk (1 : UInt64) Nm.zero)] ++ [At.mk (Ky.mk (1 : UInt8) (1 : UInt16) (Nm.mk (97 : UInt8) 0 0 0 0 0 0 0) (2 : UInt8) (3 : UInt32)) (Vl.mk (2 : UInt64) Nm.zero)])) ([At.mk (Ky.mk (1 : UInt8) (1 : UInt16) (Nm.mk (97 : UInt8) 0 0 0 0 0 0 0) (2 : UInt8) (3 : UInt32)) (Vl.mk (2 : UInt64) Nm.zero)]) _ (hS.mem (.head _)) (hS.mem (.tail _ (.head _)))) ?_
  rintro e W195 ⟨rfl, hB⟩
  replace hS := hS.ext hB
  refine ⟨_, rfl, ?_⟩
  have ht196 : (decide (normAt ([At.mk (Ky.mk (1 : UInt8) (1 : UInt16) (Nm.mk (97 : UInt8) 0 0 0 0 0 0 0) (2 : UInt8) (3 : UInt32)) (Vl.mk (1 : UInt64) Nm.zero)] ++ [At.mk (Ky.mk (1 : UInt8) (1 : UInt16) (Nm.mk (97 : UInt8) 0 0 0 0 0 0 0) (2 : UInt8) (3 : UInt32)) (Vl.mk (2 : UInt64) Nm.zero)]) = [At.mk (Ky.mk (1 : UInt8) (1 : UInt16) (Nm.mk (97 : UInt8) 0 0 0 0 0 0 0) (2 : UInt8) (3 : UInt32)) (Vl.mk (2 : UInt64) Nm.zero)])) = true := by kernel_rfl
  refine WL.op (v := .bool (decide (normAt ([At.mk (Ky.mk (1 : UInt8) (1 : UInt16) (Nm.mk (97 : UInt8) 0 0 0 0 0 0 0) (2 : UInt8) (3 : UInt32)) (Vl.mk (1 : UInt64) Nm.zero)] ++ [At.mk (Ky.mk (1 : UInt8) (1 : UInt16) (Nm.mk (97 : UInt8) 0 0 0 0 0 0 0) (2 : UInt8) (3 : UInt32)) (Vl.mk (2 : UInt64) Nm.zero)]) = [At.mk (Ky.mk (1 : UInt8) (1 : UInt16) (Nm.mk (97 : UInt8) 0 0 0 0 0 0 0) (2 : UInt8) (3 : UInt32)) (Vl.mk (2 : UInt64) Nm.zero)]))) rfl rfl rfl (Ex.move rfl rfl) ?_
  refine WL.on rfl rfl rfl (congrArg Value.bool ht196) ?_
  refine WL.op (v := (vs 8)) rfl rfl rfl (Ex.move rfl rfl) ?_
  refine WL.on rfl rfl rfl (congrArg Value.bool ht196) ?_
  refine WL.op (v := (vs 9)) rfl rfl rfl (Ex.move rfl rfl) ?_
  refine WL.on rfl rfl rfl (congrArg Value.bool ht196) ?_
  refine WL.call rfl rfl rfl (enterS eg18 (args := [(vs 8), (vs 9)]) rfl rfl rfl rfl) (c_meet _ _ ([At.mk (Ky.mk (1 : UInt8) (1 : UInt16) (Nm.mk (97 : UInt8) 0 0 0 0 0 0 0) (2 : UInt8) (3 : UInt32)) (Vl.mk (1 : UInt64) Nm.zero)]) ([At.mk (Ky.mk (1 : UInt8) (1 : UInt16) (Nm.mk (97 : UInt8) 0 0 0 0 0 0 0) (2 : UInt8) (3 : UInt32)) (Vl.mk (2 : UInt64) Nm.zero)]) _ (hS.mem (.tail _ (.tail _ (.head _)))) (hS.mem (.tail _ (.head _))) (by first | omega | (simp; done) | (simp; omega)) (by first | omega | (simp; done) | (simp; omega))) ?_
  rintro e W199 ⟨v197, rfl, hB, hv', hn'⟩
  have hN198 : New w v197 := fun b hb => Nat.le_trans hS.bw.size (hn' b hb)
  replace hS := hS.newPin hB (pinSl v197 (meetAt ([At.mk (Ky.mk (1 : UInt8) (1 : UInt16) (Nm.mk (97 : UInt8) 0 0 0 0 0 0 0) (2 : UInt8) (3 : UInt32)) (Vl.mk (1 : UInt64) Nm.zero)]) ([At.mk (Ky.mk (1 : UInt8) (1 : UInt16) (Nm.mk (97 : UInt8) 0 0 0 0 0 0 0) (2 : UInt8) (3 : UInt32)) (Vl.mk (2 : UInt64) Nm.zero)]))) hv' hn'
  refine ⟨_, rfl, ?_⟩
  have hq200 := meetAt_length ([At.mk (Ky.mk (1 : UInt8) (1 : UInt16) (Nm.mk (97 : UInt8) 0 0 0 0 0 0 0) (2 : UInt8) (3 : UInt32)) (Vl.mk (1 : UInt64) Nm.zero)]) ([At.mk (Ky.mk (1 : UInt8) (1 : UInt16) (Nm.mk (97 : UInt8) 0 0 0 0 0 0 0) (2 : UInt8) (3 : UInt32)) (Vl.mk (2 : UInt64) Nm.zero)])
  refine WL.on rfl rfl rfl (congrArg Value.bool ht196) ?_
  refine WL.op (v := (vs 8)) rfl rfl rfl (Ex.move rfl rfl) ?_
  refine WL.on rfl rfl rfl (congrArg Value.bool ht196) ?_
  refine WL.call rfl rfl rfl (enterS eg15 (args := [v197, (vs 8)]) rfl rfl rfl rfl) (c_rows _ _ (meetAt ([At.mk (Ky.mk (1 : UInt8) (1 : UInt16) (Nm.mk (97 : UInt8) 0 0 0 0 0 0 0) (2 : UInt8) (3 : UInt32)) (Vl.mk (1 : UInt64) Nm.zero)]) ([At.mk (Ky.mk (1 : UInt8) (1 : UInt16) (Nm.mk (97 : UInt8) 0 0 0 0 0 0 0) (2 : UInt8) (3 : UInt32)) (Vl.mk (2 : UInt64) Nm.zero)])) ([At.mk (Ky.mk (1 : UInt8) (1 : UInt16) (Nm.mk (97 : UInt8) 0 0 0 0 0 0 0) (2 : UInt8) (3 : UInt32)) (Vl.mk (1 : UInt64) Nm.zero)]) _ (hS.mem (.head _)) (hS.mem (.tail _ (.tail _ (.tail _ (.head _)))))) ?_
  rintro e W201 ⟨rfl, hB⟩
  replace hS := hS.ext hB
  refine ⟨_, rfl, ?_⟩
  have ht202 : (decide (meetAt ([At.mk (Ky.mk (1 : UInt8) (1 : UInt16) (Nm.mk (97 : UInt8) 0 0 0 0 0 0 0) (2 : UInt8) (3 : UInt32)) (Vl.mk (1 : UInt64) Nm.zero)]) ([At.mk (Ky.mk (1 : UInt8) (1 : UInt16) (Nm.mk (97 : UInt8) 0 0 0 0 0 0 0) (2 : UInt8) (3 : UInt32)) (Vl.mk (2 : UInt64) Nm.zero)]) = [At.mk (Ky.mk (1 : UInt8) (1 : UInt16) (Nm.mk (97 : UInt8) 0 0 0 0 0 0 0) (2 : UInt8) (3 : UInt32)) (Vl.mk (1 : UInt64) Nm.zero)])) = true := by kernel_rfl
  refine WL.op (v := .bool (decide (meetAt ([At.mk (Ky.mk (1 : UInt8) (1 : UInt16) (Nm.mk (97 : UInt8) 0 0 0 0 0 0 0) (2 : UInt8) (3 : UInt32)) (Vl.mk (1 : UInt64) Nm.zero)]) ([At.mk (Ky.mk (1 : UInt8) (1 : UInt16) (Nm.mk (97 : UInt8) 0 0 0 0 0 0 0) (2 : UInt8) (3 : UInt32)) (Vl.mk (2 : UInt64) Nm.zero)]) = [At.mk (Ky.mk (1 : UInt8) (1 : UInt16) (Nm.mk (97 : UInt8) 0 0 0 0 0 0 0) (2 : UInt8) (3 : UInt32)) (Vl.mk (1 : UInt64) Nm.zero)]))) rfl rfl rfl (Ex.pickT rfl (congrArg Value.bool ht196) rfl) ?_
  refine WL.op (v := .bool (decide (meetAt ([At.mk (Ky.mk (1 : UInt8) (1 : UInt16) (Nm.mk (97 : UInt8) 0 0 0 0 0 0 0) (2 : UInt8) (3 : UInt32)) (Vl.mk (1 : UInt64) Nm.zero)]) ([At.mk (Ky.mk (1 : UInt8) (1 : UInt16) (Nm.mk (97 : UInt8) 0 0 0 0 0 0 0) (2 : UInt8) (3 : UInt32)) (Vl.mk (2 : UInt64) Nm.zero)]) = [At.mk (Ky.mk (1 : UInt8) (1 : UInt16) (Nm.mk (97 : UInt8) 0 0 0 0 0 0 0) (2 : UInt8) (3 : UInt32)) (Vl.mk (1 : UInt64) Nm.zero)]))) rfl rfl rfl (Ex.move rfl rfl) ?_
  refine WL.on rfl rfl rfl (congrArg Value.bool ht202) ?_
  refine WL.op (v := (vs 8)) rfl rfl rfl (Ex.move rfl rfl) ?_
  refine WL.on rfl rfl rfl (congrArg Value.bool ht202) ?_
  refine WL.call rfl rfl rfl (enterS eg24 (args := [(vs 8)]) rfl rfl rfl rfl) (c_latRight _ ([At.mk (Ky.mk (1 : UInt8) (1 : UInt16) (Nm.mk (97 : UInt8) 0 0 0 0 0 0 0) (2 : UInt8) (3 : UInt32)) (Vl.mk (1 : UInt64) Nm.zero)]) _ (hS.mem (.tail _ (.tail _ (.tail _ (.head _)))))) ?_
  rintro e W203 ⟨rfl, hB⟩
  replace hS := hS.ext hB
  refine ⟨_, rfl, ?_⟩
  have ht204 : (latRight ([At.mk (Ky.mk (1 : UInt8) (1 : UInt16) (Nm.mk (97 : UInt8) 0 0 0 0 0 0 0) (2 : UInt8) (3 : UInt32)) (Vl.mk (1 : UInt64) Nm.zero)])) = true := by kernel_rfl
  refine WL.op (v := .bool (latRight ([At.mk (Ky.mk (1 : UInt8) (1 : UInt16) (Nm.mk (97 : UInt8) 0 0 0 0 0 0 0) (2 : UInt8) (3 : UInt32)) (Vl.mk (1 : UInt64) Nm.zero)]))) rfl rfl rfl (Ex.pickT rfl (congrArg Value.bool ht202) rfl) ?_
  refine WL.op (v := .bool (latRight ([At.mk (Ky.mk (1 : UInt8) (1 : UInt16) (Nm.mk (97 : UInt8) 0 0 0 0 0 0 0) (2 : UInt8) (3 : UInt32)) (Vl.mk (1 : UInt64) Nm.zero)]))) rfl rfl rfl (Ex.assign rfl rfl) ?_
  refine WL.nil ?_
  refine then_normal ?_
  refine WP.ret ?_
  refine ?_
  refine rt1 (v := .bool (latRight ([At.mk (Ky.mk (1 : UInt8) (1 : UInt16) (Nm.mk (97 : UInt8) 0 0 0 0 0 0 0) (2 : UInt8) (3 : UInt32)) (Vl.mk (1 : UInt64) Nm.zero)]))) rfl rfl ?_
  exact ⟨by rw [ht204], hS.bw⟩
set_option maxRecDepth 100000 in
set_option maxHeartbeats 4000000 in
theorem c_latLeast (s1 s2 s3 : Value) (la lb lc : List At) (w : World) (ha : Sl w s1 la) (hb : Sl w s2 lb) (hc : Sl w s3 lc) :
    Calls Try.prog 4 #[s1, s2, s3] w fun e w' => e = .returned (.bool true) ∧ Bw w w' := by
  have hS := St.begin (w := w) (pins := pinSl s1 la :: pinSl s2 lb :: pinSl s3 lc :: []) ⟨ha, hb, hc, trivial⟩
  refine enter (n := 155) Try.func4 rfl rfl (Nat.le_of_ble_eq_true rfl) (l := [(0, s1), (1, s2), (2, s3)]) rfl ?_
  refine WP.seq ?_
  refine WP.region ?_
  refine WL.op (v := .bool false) rfl rfl rfl (Ex.assign rfl rfl) ?_
  refine WL.nil ?_
  refine then_normal ?_
  refine WP.seq ?_
  refine WP.seq ?_
  refine WP.region ?_
  refine WL.op (v := s1) rfl rfl rfl (Ex.move rfl rfl) ?_
  have hl205 : la.length < 4611686018427387904 := (hS.mem (.head _) : Sl _ _ _).lt
  refine WL.op (v := .int .i64 (la.length : Int)) rfl rfl rfl (Ex.lenSl (l := la) ⟨_, under22⟩ rfl rfl (hS.mem (.head _))) ?_
  refine WL.op (v := .bool (decide (40 < (la.length : Int)))) rfl rfl rfl (Ex.gt rfl rfl rfl) ?_
  refine WL.op (v := .bool (decide (40 < (la.length : Int)))) rfl rfl rfl (Ex.move rfl rfl) ?_
  rcases Bool.eq_false_or_eq_true (decide (40 < (la.length : Int))) with hg206 | hg206
  ·
    have hg206' : 40 < (la.length : Int) := by simpa using hg206
    refine WL.off (b' := true) rfl rfl rfl rfl rfl rfl (congrArg Value.bool hg206) rfl ?_
    refine WL.off (b' := true) rfl rfl rfl rfl rfl rfl (congrArg Value.bool hg206) rfl ?_
    refine WL.off (b' := true) rfl rfl rfl rfl rfl rfl (congrArg Value.bool hg206) rfl ?_
    refine WL.op (v := .bool true) rfl rfl rfl (Ex.pickT rfl (congrArg Value.bool hg206) rfl) ?_
    refine WL.op (v := .bool true) rfl rfl rfl (Ex.move rfl rfl) ?_
    refine WL.off (b' := true) rfl rfl rfl rfl rfl rfl rfl rfl ?_
    refine WL.off (b' := true) rfl rfl rfl rfl rfl rfl rfl rfl ?_
    refine WL.off (b' := true) rfl rfl rfl rfl rfl rfl rfl rfl ?_
    refine WL.op (v := .bool true) rfl rfl rfl (Ex.pickT rfl rfl rfl) ?_
    refine WL.nil ?_
    refine then_normal ?_
    refine WP.condT rfl ?_
    refine WP.seq ?_
    refine WP.region ?_
    refine WL.call rfl rfl rfl (enterS eg14 (args := []) rfl rfl rfl rfl) (c_alive10 _) ?_
    rintro e W207 ⟨rfl, hB⟩
    replace hS := hS.ext hB
    refine ⟨_, rfl, ?_⟩
    refine WL.op (v := .bool true) rfl rfl rfl (Ex.assign rfl rfl) ?_
    refine WL.nil ?_
    refine then_normal ?_
    refine WP.ret ?_
    refine then_ret (?_)
    refine rt1 (v := .bool true) rfl rfl ?_
    exact ⟨rfl, hS.bw⟩
  ·
    have hg206' : ¬ (40 < (la.length : Int)) := by simpa using hg206
    refine WL.on rfl rfl rfl (congrArg Value.bool hg206) ?_
    refine WL.op (v := s2) rfl rfl rfl (Ex.move rfl rfl) ?_
    refine WL.on rfl rfl rfl (congrArg Value.bool hg206) ?_
    have hl208 : lb.length < 4611686018427387904 := (hS.mem (.tail _ (.head _)) : Sl _ _ _).lt
    refine WL.op (v := .int .i64 (lb.length : Int)) rfl rfl rfl (Ex.lenSl (l := lb) ⟨_, under22⟩ rfl rfl (hS.mem (.tail _ (.head _)))) ?_
    refine WL.on rfl rfl rfl (congrArg Value.bool hg206) ?_
    refine WL.op (v := .bool (decide (40 < (lb.length : Int)))) rfl rfl rfl (Ex.gt rfl rfl rfl) ?_
    refine WL.op (v := .bool (decide (40 < (lb.length : Int)))) rfl rfl rfl (Ex.pickF rfl (congrArg Value.bool hg206) rfl) ?_
    refine WL.op (v := .bool (decide (40 < (lb.length : Int)))) rfl rfl rfl (Ex.move rfl rfl) ?_
    rcases Bool.eq_false_or_eq_true (decide (40 < (lb.length : Int))) with hg209 | hg209
    ·
      have hg209' : 40 < (lb.length : Int) := by simpa using hg209
      refine WL.off (b' := true) rfl rfl rfl rfl rfl rfl (congrArg Value.bool hg209) rfl ?_
      refine WL.off (b' := true) rfl rfl rfl rfl rfl rfl (congrArg Value.bool hg209) rfl ?_
      refine WL.off (b' := true) rfl rfl rfl rfl rfl rfl (congrArg Value.bool hg209) rfl ?_
      refine WL.op (v := .bool true) rfl rfl rfl (Ex.pickT rfl (congrArg Value.bool hg209) rfl) ?_
      refine WL.nil ?_
      refine then_normal ?_
      refine WP.condT rfl ?_
      refine WP.seq ?_
      refine WP.region ?_
      refine WL.call rfl rfl rfl (enterS eg14 (args := []) rfl rfl rfl rfl) (c_alive10 _) ?_
      rintro e W210 ⟨rfl, hB⟩
      replace hS := hS.ext hB
      refine ⟨_, rfl, ?_⟩
      refine WL.op (v := .bool true) rfl rfl rfl (Ex.assign rfl rfl) ?_
      refine WL.nil ?_
      refine then_normal ?_
      refine WP.ret ?_
      refine then_ret (?_)
      refine rt1 (v := .bool true) rfl rfl ?_
      exact ⟨rfl, hS.bw⟩
    ·
      have hg209' : ¬ (40 < (lb.length : Int)) := by simpa using hg209
      refine WL.on rfl rfl rfl (congrArg Value.bool hg209) ?_
      refine WL.op (v := s3) rfl rfl rfl (Ex.move rfl rfl) ?_
      refine WL.on rfl rfl rfl (congrArg Value.bool hg209) ?_
      have hl211 : lc.length < 4611686018427387904 := (hS.mem (.tail _ (.tail _ (.head _))) : Sl _ _ _).lt
      refine WL.op (v := .int .i64 (lc.length : Int)) rfl rfl rfl (Ex.lenSl (l := lc) ⟨_, under22⟩ rfl rfl (hS.mem (.tail _ (.tail _ (.head _))))) ?_
      refine WL.on rfl rfl rfl (congrArg Value.bool hg209) ?_
      refine WL.op (v := .bool (decide (40 < (lc.length : Int)))) rfl rfl rfl (Ex.gt rfl rfl rfl) ?_
      refine WL.op (v := .bool (decide (40 < (lc.length : Int)))) rfl rfl rfl (Ex.pickF rfl (congrArg Value.bool hg209) rfl) ?_
      refine WL.nil ?_
      refine then_normal ?_
      refine WP.cond (b := decide (40 < (lc.length : Int))) rfl (fun hc212 => ?_) (fun hc212 => ?_)
      ·
        have hc212' : 40 < (lc.length : Int) := by simpa using hc212
        refine WP.seq ?_
        refine WP.region ?_
        refine WL.call rfl rfl rfl (enterS eg14 (args := []) rfl rfl rfl rfl) (c_alive10 _) ?_
        rintro e W213 ⟨rfl, hB⟩
        replace hS := hS.ext hB
        refine ⟨_, rfl, ?_⟩
        refine WL.op (v := .bool true) rfl rfl rfl (Ex.assign rfl rfl) ?_
        refine WL.nil ?_
        refine then_normal ?_
        refine WP.ret ?_
        refine then_ret (?_)
        refine rt1 (v := .bool true) rfl rfl ?_
        exact ⟨rfl, hS.bw⟩
      ·
        have hc212' : ¬ (40 < (lc.length : Int)) := by simpa using hc212
        refine WP.skip ?_
        refine then_normal ?_
        refine WP.seq ?_
        refine WP.region ?_
        refine WL.op (v := s1) rfl rfl rfl (Ex.move rfl rfl) ?_
        refine WL.op (v := s2) rfl rfl rfl (Ex.move rfl rfl) ?_
        refine WL.call rfl rfl rfl (enterS eg16 (args := [s1, s2]) rfl rfl rfl rfl) (c_join _ _ la lb _ (hS.mem (.head _)) (hS.mem (.tail _ (.head _))) (by first | omega | (simp; done) | (simp; omega))) ?_
        rintro e W216 ⟨v214, rfl, hB, hv', hn'⟩
        have hN215 : New w v214 := fun b hb => Nat.le_trans hS.bw.size (hn' b hb)
        replace hS := hS.newPin hB (pinSl v214 (normAt (la ++ lb))) hv' hn'
        refine ⟨_, rfl, ?_⟩
        have hq217 := normAt_len2 la lb
        refine WL.op (v := s1) rfl rfl rfl (Ex.move rfl rfl) ?_
        refine WL.op (v := s2) rfl rfl rfl (Ex.move rfl rfl) ?_
        refine WL.call rfl rfl rfl (enterS eg18 (args := [s1, s2]) rfl rfl rfl rfl) (c_meet _ _ la lb _ (hS.mem (.tail _ (.head _))) (hS.mem (.tail _ (.tail _ (.head _)))) (by first | omega | (simp; done) | (simp; omega)) (by first | omega | (simp; done) | (simp; omega))) ?_
        rintro e W220 ⟨v218, rfl, hB, hv', hn'⟩
        have hN219 : New w v218 := fun b hb => Nat.le_trans hS.bw.size (hn' b hb)
        replace hS := hS.newPin hB (pinSl v218 (meetAt la lb)) hv' hn'
        refine ⟨_, rfl, ?_⟩
        have hq221 := meetAt_length la lb
        refine WL.op (v := v214) rfl rfl rfl (Ex.assign rfl rfl) ?_
        refine WL.op (v := v218) rfl rfl rfl (Ex.assign rfl rfl) ?_
        refine WL.nil ?_
        refine then_normal ?_
        refine WP.seq ?_
        refine WP.seq ?_
        refine WP.region ?_
        refine WL.op (v := v214) rfl rfl rfl (Ex.move rfl rfl) ?_
        refine WL.call rfl rfl rfl (enterS eg24 (args := [v214]) rfl rfl rfl rfl) (c_latRight _ (normAt (la ++ lb)) _ (hS.mem (.tail _ (.head _)))) ?_
        rintro e W222 ⟨rfl, hB⟩
        replace hS := hS.ext hB
        refine ⟨_, rfl, ?_⟩
        have ht223 : (latRight (normAt (la ++ lb))) = true := ll1 la lb
        refine WL.op (v := .bool (!(latRight (normAt (la ++ lb))))) rfl rfl rfl (Ex.not rfl rfl) ?_
        refine WL.op (v := .bool (!(latRight (normAt (la ++ lb))))) rfl rfl rfl (Ex.move rfl rfl) ?_
        refine WL.on rfl rfl rfl (congrArg (fun b => Value.bool (!b)) ht223) ?_
        refine WL.op (v := v218) rfl rfl rfl (Ex.move rfl rfl) ?_
        refine WL.on rfl rfl rfl (congrArg (fun b => Value.bool (!b)) ht223) ?_
        refine WL.call rfl rfl rfl (enterS eg24 (args := [v218]) rfl rfl rfl rfl) (c_latRight _ (meetAt la lb) _ (hS.mem (.head _))) ?_
        rintro e W224 ⟨rfl, hB⟩
        replace hS := hS.ext hB
        refine ⟨_, rfl, ?_⟩
        have ht225 : (latRight (meetAt la lb)) = true := ll2 la lb
        refine WL.on rfl rfl rfl (congrArg (fun b => Value.bool (!b)) ht223) ?_
        refine WL.op (v := .bool (!(latRight (meetAt la lb)))) rfl rfl rfl (Ex.not rfl rfl) ?_
        refine WL.op (v := .bool (!(latRight (meetAt la lb)))) rfl rfl rfl (Ex.pickF rfl (congrArg (fun b => Value.bool (!b)) ht223) rfl) ?_
        refine WL.op (v := .bool (!(latRight (meetAt la lb)))) rfl rfl rfl (Ex.move rfl rfl) ?_
        refine WL.on rfl rfl rfl (congrArg (fun b => Value.bool (!b)) ht225) ?_
        refine WL.op (v := s1) rfl rfl rfl (Ex.move rfl rfl) ?_
        refine WL.on rfl rfl rfl (congrArg (fun b => Value.bool (!b)) ht225) ?_
        refine WL.op (v := v214) rfl rfl rfl (Ex.move rfl rfl) ?_
        refine WL.on rfl rfl rfl (congrArg (fun b => Value.bool (!b)) ht225) ?_
        refine WL.call rfl rfl rfl (enterS eg20 (args := [s1, v214]) rfl rfl rfl rfl) (c_leq _ _ la (normAt (la ++ lb)) _ (hS.mem (.tail _ (.tail _ (.head _)))) (hS.mem (.tail _ (.head _))) (by first | omega | (simp; done) | (simp; omega)) (by first | omega | (simp; done) | (simp; omega))) ?_
        rintro e W226 ⟨rfl, hB⟩
        replace hS := hS.ext hB
        refine ⟨_, rfl, ?_⟩
        have ht227 : (leqAt la (normAt (la ++ lb))) = true := ll3 la lb
        refine WL.on rfl rfl rfl (congrArg (fun b => Value.bool (!b)) ht225) ?_
        refine WL.op (v := .bool (!(leqAt la (normAt (la ++ lb))))) rfl rfl rfl (Ex.not rfl rfl) ?_
        refine WL.op (v := .bool (!(leqAt la (normAt (la ++ lb))))) rfl rfl rfl (Ex.pickF rfl (congrArg (fun b => Value.bool (!b)) ht225) rfl) ?_
        refine WL.op (v := .bool (!(leqAt la (normAt (la ++ lb))))) rfl rfl rfl (Ex.move rfl rfl) ?_
        refine WL.on rfl rfl rfl (congrArg (fun b => Value.bool (!b)) ht227) ?_
        refine WL.op (v := s2) rfl rfl rfl (Ex.move rfl rfl) ?_
        refine WL.on rfl rfl rfl (congrArg (fun b => Value.bool (!b)) ht227) ?_
        refine WL.op (v := v214) rfl rfl rfl (Ex.move rfl rfl) ?_
        refine WL.on rfl rfl rfl (congrArg (fun b => Value.bool (!b)) ht227) ?_
        refine WL.call rfl rfl rfl (enterS eg20 (args := [s2, v214]) rfl rfl rfl rfl) (c_leq _ _ lb (normAt (la ++ lb)) _ (hS.mem (.tail _ (.tail _ (.tail _ (.head _))))) (hS.mem (.tail _ (.head _))) (by first | omega | (simp; done) | (simp; omega)) (by first | omega | (simp; done) | (simp; omega))) ?_
        rintro e W228 ⟨rfl, hB⟩
        replace hS := hS.ext hB
        refine ⟨_, rfl, ?_⟩
        have ht229 : (leqAt lb (normAt (la ++ lb))) = true := ll4 la lb
        refine WL.on rfl rfl rfl (congrArg (fun b => Value.bool (!b)) ht227) ?_
        refine WL.op (v := .bool (!(leqAt lb (normAt (la ++ lb))))) rfl rfl rfl (Ex.not rfl rfl) ?_
        refine WL.op (v := .bool (!(leqAt lb (normAt (la ++ lb))))) rfl rfl rfl (Ex.pickF rfl (congrArg (fun b => Value.bool (!b)) ht227) rfl) ?_
        refine WL.op (v := .bool (!(leqAt lb (normAt (la ++ lb))))) rfl rfl rfl (Ex.move rfl rfl) ?_
        refine WL.on rfl rfl rfl (congrArg (fun b => Value.bool (!b)) ht229) ?_
        refine WL.op (v := v218) rfl rfl rfl (Ex.move rfl rfl) ?_
        refine WL.on rfl rfl rfl (congrArg (fun b => Value.bool (!b)) ht229) ?_
        refine WL.op (v := s1) rfl rfl rfl (Ex.move rfl rfl) ?_
        refine WL.on rfl rfl rfl (congrArg (fun b => Value.bool (!b)) ht229) ?_
        refine WL.call rfl rfl rfl (enterS eg20 (args := [v218, s1]) rfl rfl rfl rfl) (c_leq _ _ (meetAt la lb) la _ (hS.mem (.head _)) (hS.mem (.tail _ (.tail _ (.head _)))) (by first | omega | (simp; done) | (simp; omega)) (by first | omega | (simp; done) | (simp; omega))) ?_
        rintro e W230 ⟨rfl, hB⟩
        replace hS := hS.ext hB
        refine ⟨_, rfl, ?_⟩
        have ht231 : (leqAt (meetAt la lb) la) = true := ll5 la lb
        refine WL.on rfl rfl rfl (congrArg (fun b => Value.bool (!b)) ht229) ?_
        refine WL.op (v := .bool (!(leqAt (meetAt la lb) la))) rfl rfl rfl (Ex.not rfl rfl) ?_
        refine WL.op (v := .bool (!(leqAt (meetAt la lb) la))) rfl rfl rfl (Ex.pickF rfl (congrArg (fun b => Value.bool (!b)) ht229) rfl) ?_
        refine WL.op (v := .bool (!(leqAt (meetAt la lb) la))) rfl rfl rfl (Ex.move rfl rfl) ?_
        refine WL.on rfl rfl rfl (congrArg (fun b => Value.bool (!b)) ht231) ?_
        refine WL.op (v := v218) rfl rfl rfl (Ex.move rfl rfl) ?_
        refine WL.on rfl rfl rfl (congrArg (fun b => Value.bool (!b)) ht231) ?_
        refine WL.op (v := s2) rfl rfl rfl (Ex.move rfl rfl) ?_
        refine WL.on rfl rfl rfl (congrArg (fun b => Value.bool (!b)) ht231) ?_
        refine WL.call rfl rfl rfl (enterS eg20 (args := [v218, s2]) rfl rfl rfl rfl) (c_leq _ _ (meetAt la lb) lb _ (hS.mem (.head _)) (hS.mem (.tail _ (.tail _ (.tail _ (.head _))))) (by first | omega | (simp; done) | (simp; omega)) (by first | omega | (simp; done) | (simp; omega))) ?_
        rintro e W232 ⟨rfl, hB⟩
        replace hS := hS.ext hB
        refine ⟨_, rfl, ?_⟩
        have ht233 : (leqAt (meetAt la lb) lb) = true := ll6 la lb
        refine WL.on rfl rfl rfl (congrArg (fun b => Value.bool (!b)) ht231) ?_
        refine WL.op (v := .bool (!(leqAt (meetAt la lb) lb))) rfl rfl rfl (Ex.not rfl rfl) ?_
        refine WL.op (v := .bool (!(leqAt (meetAt la lb) lb))) rfl rfl rfl (Ex.pickF rfl (congrArg (fun b => Value.bool (!b)) ht231) rfl) ?_
        refine WL.nil ?_
        refine then_normal ?_
        refine WP.condF (congrArg (fun b => Value.bool (!b)) ht233) ?_
        refine WP.skip ?_
        refine then_normal ?_
        refine WP.cut (fun a W => ∃ (l0 : Fr), a = fr 155 [] ([(0, s1), (1, s2), (2, s3), (7, v214)] ++ l0) ∧ St w ([]) (pinSl v218 (meetAt la lb) :: pinSl v214 (normAt (la ++ lb)) :: pinSl s1 la :: pinSl s2 lb :: pinSl s3 lc :: []) W) ?_ ?_
        ·
          refine WP.seq ?_
          refine WP.region ?_
          refine WL.op (v := s1) rfl rfl rfl (Ex.move rfl rfl) ?_
          refine WL.op (v := s3) rfl rfl rfl (Ex.move rfl rfl) ?_
          refine WL.call rfl rfl rfl (enterS eg20 (args := [s1, s3]) rfl rfl rfl rfl) (c_leq _ _ la lc _ (hS.mem (.tail _ (.tail _ (.head _)))) (hS.mem (.tail _ (.tail _ (.tail _ (.tail _ (.head _)))))) (by first | omega | (simp; done) | (simp; omega)) (by first | omega | (simp; done) | (simp; omega))) ?_
          rintro e W234 ⟨rfl, hB⟩
          replace hS := hS.ext hB
          refine ⟨_, rfl, ?_⟩
          refine WL.op (v := .bool (leqAt la lc)) rfl rfl rfl (Ex.move rfl rfl) ?_
          rcases Bool.eq_false_or_eq_true (leqAt la lc) with hg236 | hg236
          ·
            refine WL.on rfl rfl rfl (congrArg Value.bool hg236) ?_
            refine WL.op (v := s2) rfl rfl rfl (Ex.move rfl rfl) ?_
            refine WL.on rfl rfl rfl (congrArg Value.bool hg236) ?_
            refine WL.op (v := s3) rfl rfl rfl (Ex.move rfl rfl) ?_
            refine WL.on rfl rfl rfl (congrArg Value.bool hg236) ?_
            refine WL.call rfl rfl rfl (enterS eg20 (args := [s2, s3]) rfl rfl rfl rfl) (c_leq _ _ lb lc _ (hS.mem (.tail _ (.tail _ (.tail _ (.head _))))) (hS.mem (.tail _ (.tail _ (.tail _ (.tail _ (.head _)))))) (by first | omega | (simp; done) | (simp; omega)) (by first | omega | (simp; done) | (simp; omega))) ?_
            rintro e W237 ⟨rfl, hB⟩
            replace hS := hS.ext hB
            refine ⟨_, rfl, ?_⟩
            refine WL.op (v := .bool (leqAt lb lc)) rfl rfl rfl (Ex.pickT rfl (congrArg Value.bool hg236) rfl) ?_
            refine WL.op (v := .bool (leqAt lb lc)) rfl rfl rfl (Ex.move rfl rfl) ?_
            rcases Bool.eq_false_or_eq_true (leqAt lb lc) with hg239 | hg239
            ·
              refine WL.on rfl rfl rfl (congrArg Value.bool hg239) ?_
              refine WL.op (v := v214) rfl rfl rfl (Ex.move rfl rfl) ?_
              refine WL.on rfl rfl rfl (congrArg Value.bool hg239) ?_
              refine WL.op (v := s3) rfl rfl rfl (Ex.move rfl rfl) ?_
              refine WL.on rfl rfl rfl (congrArg Value.bool hg239) ?_
              refine WL.call rfl rfl rfl (enterS eg20 (args := [v214, s3]) rfl rfl rfl rfl) (c_leq _ _ (normAt (la ++ lb)) lc _ (hS.mem (.tail _ (.head _))) (hS.mem (.tail _ (.tail _ (.tail _ (.tail _ (.head _)))))) (by first | omega | (simp; done) | (simp; omega)) (by first | omega | (simp; done) | (simp; omega))) ?_
              rintro e W240 ⟨rfl, hB⟩
              replace hS := hS.ext hB
              refine ⟨_, rfl, ?_⟩
              have ht241 : (leqAt (normAt (la ++ lb)) lc) = true := ll7 la lb lc hg236 hg239
              refine WL.on rfl rfl rfl (congrArg Value.bool hg239) ?_
              refine WL.op (v := .bool (!(leqAt (normAt (la ++ lb)) lc))) rfl rfl rfl (Ex.not rfl rfl) ?_
              refine WL.op (v := .bool (!(leqAt (normAt (la ++ lb)) lc))) rfl rfl rfl (Ex.pickT rfl (congrArg Value.bool hg239) rfl) ?_
              refine WL.op (v := .bool (!(leqAt (normAt (la ++ lb)) lc))) rfl rfl rfl (Ex.move rfl rfl) ?_
              refine WL.on rfl rfl rfl (congrArg (fun b => Value.bool (!b)) ht241) ?_
              refine WL.op (v := s3) rfl rfl rfl (Ex.move rfl rfl) ?_
              refine WL.on rfl rfl rfl (congrArg (fun b => Value.bool (!b)) ht241) ?_
              refine WL.op (v := s1) rfl rfl rfl (Ex.move rfl rfl) ?_
              refine WL.on rfl rfl rfl (congrArg (fun b => Value.bool (!b)) ht241) ?_
              refine WL.call rfl rfl rfl (enterS eg20 (args := [s3, s1]) rfl rfl rfl rfl) (c_leq _ _ lc la _ (hS.mem (.tail _ (.tail _ (.tail _ (.tail _ (.head _)))))) (hS.mem (.tail _ (.tail _ (.head _)))) (by first | omega | (simp; done) | (simp; omega)) (by first | omega | (simp; done) | (simp; omega))) ?_
              rintro e W242 ⟨rfl, hB⟩
              replace hS := hS.ext hB
              refine ⟨_, rfl, ?_⟩
              refine WL.on rfl rfl rfl (congrArg (fun b => Value.bool (!b)) ht241) ?_
              refine WL.op (v := .bool (leqAt lc la)) rfl rfl rfl (Ex.move rfl rfl) ?_
              rcases Bool.eq_false_or_eq_true (leqAt lc la) with hg244 | hg244
              ·
                refine WL.on rfl rfl rfl (congrArg Value.bool hg244) ?_
                refine WL.op (v := s3) rfl rfl rfl (Ex.move rfl rfl) ?_
                refine WL.on rfl rfl rfl (congrArg Value.bool hg244) ?_
                refine WL.op (v := s2) rfl rfl rfl (Ex.move rfl rfl) ?_
                refine WL.on rfl rfl rfl (congrArg Value.bool hg244) ?_
                refine WL.call rfl rfl rfl (enterS eg20 (args := [s3, s2]) rfl rfl rfl rfl) (c_leq _ _ lc lb _ (hS.mem (.tail _ (.tail _ (.tail _ (.tail _ (.head _)))))) (hS.mem (.tail _ (.tail _ (.tail _ (.head _))))) (by first | omega | (simp; done) | (simp; omega)) (by first | omega | (simp; done) | (simp; omega))) ?_
                rintro e W245 ⟨rfl, hB⟩
                replace hS := hS.ext hB
                refine ⟨_, rfl, ?_⟩
                refine WL.on rfl rfl rfl (congrArg (fun b => Value.bool (!b)) ht241) ?_
                refine WL.op (v := .bool (leqAt lc lb)) rfl rfl rfl (Ex.pickT rfl (congrArg Value.bool hg244) rfl) ?_
                refine WL.on rfl rfl rfl (congrArg (fun b => Value.bool (!b)) ht241) ?_
                refine WL.op (v := .bool (leqAt lc lb)) rfl rfl rfl (Ex.move rfl rfl) ?_
                rcases Bool.eq_false_or_eq_true (leqAt lc lb) with hg247 | hg247
                ·
                  refine WL.on rfl rfl rfl (congrArg Value.bool hg247) ?_
                  refine WL.op (v := s3) rfl rfl rfl (Ex.move rfl rfl) ?_
                  refine WL.on rfl rfl rfl (congrArg Value.bool hg247) ?_
                  refine WL.op (v := v218) rfl rfl rfl (Ex.move rfl rfl) ?_
                  refine WL.on rfl rfl rfl (congrArg Value.bool hg247) ?_
                  refine WL.call rfl rfl rfl (enterS eg20 (args := [s3, v218]) rfl rfl rfl rfl) (c_leq _ _ lc (meetAt la lb) _ (hS.mem (.tail _ (.tail _ (.tail _ (.tail _ (.head _)))))) (hS.mem (.head _)) (by first | omega | (simp; done) | (simp; omega)) (by first | omega | (simp; done) | (simp; omega))) ?_
                  rintro e W248 ⟨rfl, hB⟩
                  replace hS := hS.ext hB
                  refine ⟨_, rfl, ?_⟩
                  have ht249 : (leqAt lc (meetAt la lb)) = true := ll8 la lb lc hg244 hg247
                  refine WL.on rfl rfl rfl (congrArg Value.bool hg247) ?_
                  refine WL.op (v := .bool (!(leqAt lc (meetAt la lb)))) rfl rfl rfl (Ex.not rfl rfl) ?_
                  refine WL.on rfl rfl rfl (congrArg (fun b => Value.bool (!b)) ht241) ?_
                  refine WL.op (v := .bool (!(leqAt lc (meetAt la lb)))) rfl rfl rfl (Ex.pickT rfl (congrArg Value.bool hg247) rfl) ?_
                  refine WL.op (v := .bool (!(leqAt lc (meetAt la lb)))) rfl rfl rfl (Ex.pickF rfl (congrArg (fun b => Value.bool (!b)) ht241) rfl) ?_
                  refine WL.nil ?_
                  refine then_normal ?_
                  refine WP.condF (congrArg (fun b => Value.bool (!b)) ht249) ?_
                  refine WP.skip ?_
                  refine then_normal ?_
                  exact ⟨_, fr_keep ⟨rfl, rfl, rfl, rfl, trivial⟩, hS⟩
                ·
                  refine WL.off (b' := false) rfl rfl rfl rfl rfl rfl (congrArg Value.bool hg247) rfl ?_
                  refine WL.off (b' := false) rfl rfl rfl rfl rfl rfl (congrArg Value.bool hg247) rfl ?_
                  refine WL.off (b' := false) rfl rfl rfl rfl rfl rfl (congrArg Value.bool hg247) rfl ?_
                  refine WL.off (b' := false) rfl rfl rfl rfl rfl rfl (congrArg Value.bool hg247) rfl ?_
                  refine WL.on rfl rfl rfl (congrArg (fun b => Value.bool (!b)) ht241) ?_
                  refine WL.op (v := .bool false) rfl rfl rfl (Ex.pickF rfl (congrArg Value.bool hg247) rfl) ?_
                  refine WL.op (v := .bool false) rfl rfl rfl (Ex.pickF rfl (congrArg (fun b => Value.bool (!b)) ht241) rfl) ?_
                  refine WL.nil ?_
                  refine then_normal ?_
                  refine WP.condF rfl ?_
                  refine WP.skip ?_
                  refine then_normal ?_
                  exact ⟨_, fr_keep ⟨rfl, rfl, rfl, rfl, trivial⟩, hS⟩
              ·
                refine WL.off (b' := false) rfl rfl rfl rfl rfl rfl (congrArg Value.bool hg244) rfl ?_
                refine WL.off (b' := false) rfl rfl rfl rfl rfl rfl (congrArg Value.bool hg244) rfl ?_
                refine WL.off (b' := false) rfl rfl rfl rfl rfl rfl (congrArg Value.bool hg244) rfl ?_
                refine WL.on rfl rfl rfl (congrArg (fun b => Value.bool (!b)) ht241) ?_
                refine WL.op (v := .bool false) rfl rfl rfl (Ex.pickF rfl (congrArg Value.bool hg244) rfl) ?_
                refine WL.on rfl rfl rfl (congrArg (fun b => Value.bool (!b)) ht241) ?_
                refine WL.op (v := .bool false) rfl rfl rfl (Ex.move rfl rfl) ?_
                refine WL.off (b' := false) rfl rfl rfl rfl rfl rfl rfl rfl ?_
                refine WL.off (b' := false) rfl rfl rfl rfl rfl rfl rfl rfl ?_
                refine WL.off (b' := false) rfl rfl rfl rfl rfl rfl rfl rfl ?_
                refine WL.off (b' := false) rfl rfl rfl rfl rfl rfl rfl rfl ?_
                refine WL.on rfl rfl rfl (congrArg (fun b => Value.bool (!b)) ht241) ?_
                refine WL.op (v := .bool false) rfl rfl rfl (Ex.pickF rfl rfl rfl) ?_
                refine WL.op (v := .bool false) rfl rfl rfl (Ex.pickF rfl (congrArg (fun b => Value.bool (!b)) ht241) rfl) ?_
                refine WL.nil ?_
                refine then_normal ?_
                refine WP.condF rfl ?_
                refine WP.skip ?_
                refine then_normal ?_
                exact ⟨_, fr_keep ⟨rfl, rfl, rfl, rfl, trivial⟩, hS⟩
            ·
              refine WL.off (b' := false) rfl rfl rfl rfl rfl rfl (congrArg Value.bool hg239) rfl ?_
              refine WL.off (b' := false) rfl rfl rfl rfl rfl rfl (congrArg Value.bool hg239) rfl ?_
              refine WL.off (b' := false) rfl rfl rfl rfl rfl rfl (congrArg Value.bool hg239) rfl ?_
              refine WL.off (b' := false) rfl rfl rfl rfl rfl rfl (congrArg Value.bool hg239) rfl ?_
              refine WL.op (v := .bool false) rfl rfl rfl (Ex.pickF rfl (congrArg Value.bool hg239) rfl) ?_
              refine WL.op (v := .bool false) rfl rfl rfl (Ex.move rfl rfl) ?_
              refine WL.on rfl rfl rfl rfl ?_
              refine WL.op (v := s3) rfl rfl rfl (Ex.move rfl rfl) ?_
              refine WL.on rfl rfl rfl rfl ?_
              refine WL.op (v := s1) rfl rfl rfl (Ex.move rfl rfl) ?_
              refine WL.on rfl rfl rfl rfl ?_
              refine WL.call rfl rfl rfl (enterS eg20 (args := [s3, s1]) rfl rfl rfl rfl) (c_leq _ _ lc la _ (hS.mem (.tail _ (.tail _ (.tail _ (.tail _ (.head _)))))) (hS.mem (.tail _ (.tail _ (.head _)))) (by first | omega | (simp; done) | (simp; omega)) (by first | omega | (simp; done) | (simp; omega))) ?_
              rintro e W250 ⟨rfl, hB⟩
              replace hS := hS.ext hB
              refine ⟨_, rfl, ?_⟩
              refine WL.on rfl rfl rfl rfl ?_
              refine WL.op (v := .bool (leqAt lc la)) rfl rfl rfl (Ex.move rfl rfl) ?_
              rcases Bool.eq_false_or_eq_true (leqAt lc la) with hg252 | hg252
              ·
                refine WL.on rfl rfl rfl (congrArg Value.bool hg252) ?_
                refine WL.op (v := s3) rfl rfl rfl (Ex.move rfl rfl) ?_
                refine WL.on rfl rfl rfl (congrArg Value.bool hg252) ?_
                refine WL.op (v := s2) rfl rfl rfl (Ex.move rfl rfl) ?_
                refine WL.on rfl rfl rfl (congrArg Value.bool hg252) ?_
                refine WL.call rfl rfl rfl (enterS eg20 (args := [s3, s2]) rfl rfl rfl rfl) (c_leq _ _ lc lb _ (hS.mem (.tail _ (.tail _ (.tail _ (.tail _ (.head _)))))) (hS.mem (.tail _ (.tail _ (.tail _ (.head _))))) (by first | omega | (simp; done) | (simp; omega)) (by first | omega | (simp; done) | (simp; omega))) ?_
                rintro e W253 ⟨rfl, hB⟩
                replace hS := hS.ext hB
                refine ⟨_, rfl, ?_⟩
                refine WL.on rfl rfl rfl rfl ?_
                refine WL.op (v := .bool (leqAt lc lb)) rfl rfl rfl (Ex.pickT rfl (congrArg Value.bool hg252) rfl) ?_
                refine WL.on rfl rfl rfl rfl ?_
                refine WL.op (v := .bool (leqAt lc lb)) rfl rfl rfl (Ex.move rfl rfl) ?_
                rcases Bool.eq_false_or_eq_true (leqAt lc lb) with hg255 | hg255
                ·
                  refine WL.on rfl rfl rfl (congrArg Value.bool hg255) ?_
                  refine WL.op (v := s3) rfl rfl rfl (Ex.move rfl rfl) ?_
                  refine WL.on rfl rfl rfl (congrArg Value.bool hg255) ?_
                  refine WL.op (v := v218) rfl rfl rfl (Ex.move rfl rfl) ?_
                  refine WL.on rfl rfl rfl (congrArg Value.bool hg255) ?_
                  refine WL.call rfl rfl rfl (enterS eg20 (args := [s3, v218]) rfl rfl rfl rfl) (c_leq _ _ lc (meetAt la lb) _ (hS.mem (.tail _ (.tail _ (.tail _ (.tail _ (.head _)))))) (hS.mem (.head _)) (by first | omega | (simp; done) | (simp; omega)) (by first | omega | (simp; done) | (simp; omega))) ?_
                  rintro e W256 ⟨rfl, hB⟩
                  replace hS := hS.ext hB
                  refine ⟨_, rfl, ?_⟩
                  have ht257 : (leqAt lc (meetAt la lb)) = true := ll8 la lb lc hg252 hg255
                  refine WL.on rfl rfl rfl (congrArg Value.bool hg255) ?_
                  refine WL.op (v := .bool (!(leqAt lc (meetAt la lb)))) rfl rfl rfl (Ex.not rfl rfl) ?_
                  refine WL.on rfl rfl rfl rfl ?_
                  refine WL.op (v := .bool (!(leqAt lc (meetAt la lb)))) rfl rfl rfl (Ex.pickT rfl (congrArg Value.bool hg255) rfl) ?_
                  refine WL.op (v := .bool (!(leqAt lc (meetAt la lb)))) rfl rfl rfl (Ex.pickF rfl rfl rfl) ?_
                  refine WL.nil ?_
                  refine then_normal ?_
                  refine WP.condF (congrArg (fun b => Value.bool (!b)) ht257) ?_
                  refine WP.skip ?_
                  refine then_normal ?_
                  exact ⟨_, fr_keep ⟨rfl, rfl, rfl, rfl, trivial⟩, hS⟩
                ·
                  refine WL.off (b' := false) rfl rfl rfl rfl rfl rfl (congrArg Value.bool hg255) rfl ?_
                  refine WL.off (b' := false) rfl rfl rfl rfl rfl rfl (congrArg Value.bool hg255) rfl ?_
                  refine WL.off (b' := false) rfl rfl rfl rfl rfl rfl (congrArg Value.bool hg255) rfl ?_
                  refine WL.off (b' := false) rfl rfl rfl rfl rfl rfl (congrArg Value.bool hg255) rfl ?_
                  refine WL.on rfl rfl rfl rfl ?_
                  refine WL.op (v := .bool false) rfl rfl rfl (Ex.pickF rfl (congrArg Value.bool hg255) rfl) ?_
                  refine WL.op (v := .bool false) rfl rfl rfl (Ex.pickF rfl rfl rfl) ?_
                  refine WL.nil ?_
                  refine then_normal ?_
                  refine WP.condF rfl ?_
                  refine WP.skip ?_
                  refine then_normal ?_
                  exact ⟨_, fr_keep ⟨rfl, rfl, rfl, rfl, trivial⟩, hS⟩
              ·
                refine WL.off (b' := false) rfl rfl rfl rfl rfl rfl (congrArg Value.bool hg252) rfl ?_
                refine WL.off (b' := false) rfl rfl rfl rfl rfl rfl (congrArg Value.bool hg252) rfl ?_
                refine WL.off (b' := false) rfl rfl rfl rfl rfl rfl (congrArg Value.bool hg252) rfl ?_
                refine WL.on rfl rfl rfl rfl ?_
                refine WL.op (v := .bool false) rfl rfl rfl (Ex.pickF rfl (congrArg Value.bool hg252) rfl) ?_
                refine WL.on rfl rfl rfl rfl ?_
                refine WL.op (v := .bool false) rfl rfl rfl (Ex.move rfl rfl) ?_
                refine WL.off (b' := false) rfl rfl rfl rfl rfl rfl rfl rfl ?_
                refine WL.off (b' := false) rfl rfl rfl rfl rfl rfl rfl rfl ?_
                refine WL.off (b' := false) rfl rfl rfl rfl rfl rfl rfl rfl ?_
                refine WL.off (b' := false) rfl rfl rfl rfl rfl rfl rfl rfl ?_
                refine WL.on rfl rfl rfl rfl ?_
                refine WL.op (v := .bool false) rfl rfl rfl (Ex.pickF rfl rfl rfl) ?_
                refine WL.op (v := .bool false) rfl rfl rfl (Ex.pickF rfl rfl rfl) ?_
                refine WL.nil ?_
                refine then_normal ?_
                refine WP.condF rfl ?_
                refine WP.skip ?_
                refine then_normal ?_
                exact ⟨_, fr_keep ⟨rfl, rfl, rfl, rfl, trivial⟩, hS⟩
          ·
            refine WL.off (b' := false) rfl rfl rfl rfl rfl rfl (congrArg Value.bool hg236) rfl ?_
            refine WL.off (b' := false) rfl rfl rfl rfl rfl rfl (congrArg Value.bool hg236) rfl ?_
            refine WL.off (b' := false) rfl rfl rfl rfl rfl rfl (congrArg Value.bool hg236) rfl ?_
            refine WL.op (v := .bool false) rfl rfl rfl (Ex.pickF rfl (congrArg Value.bool hg236) rfl) ?_
            refine WL.op (v := .bool false) rfl rfl rfl (Ex.move rfl rfl) ?_
            refine WL.off (b' := false) rfl rfl rfl rfl rfl rfl rfl rfl ?_
            refine WL.off (b' := false) rfl rfl rfl rfl rfl rfl rfl rfl ?_
            refine WL.off (b' := false) rfl rfl rfl rfl rfl rfl rfl rfl ?_
            refine WL.off (b' := false) rfl rfl rfl rfl rfl rfl rfl rfl ?_
            refine WL.op (v := .bool false) rfl rfl rfl (Ex.pickF rfl rfl rfl) ?_
            refine WL.op (v := .bool false) rfl rfl rfl (Ex.move rfl rfl) ?_
            refine WL.on rfl rfl rfl rfl ?_
            refine WL.op (v := s3) rfl rfl rfl (Ex.move rfl rfl) ?_
            refine WL.on rfl rfl rfl rfl ?_
            refine WL.op (v := s1) rfl rfl rfl (Ex.move rfl rfl) ?_
            refine WL.on rfl rfl rfl rfl ?_
            refine WL.call rfl rfl rfl (enterS eg20 (args := [s3, s1]) rfl rfl rfl rfl) (c_leq _ _ lc la _ (hS.mem (.tail _ (.tail _ (.tail _ (.tail _ (.head _)))))) (hS.mem (.tail _ (.tail _ (.head _)))) (by first | omega | (simp; done) | (simp; omega)) (by first | omega | (simp; done) | (simp; omega))) ?_
            rintro e W258 ⟨rfl, hB⟩
            replace hS := hS.ext hB
            refine ⟨_, rfl, ?_⟩
            refine WL.on rfl rfl rfl rfl ?_
            refine WL.op (v := .bool (leqAt lc la)) rfl rfl rfl (Ex.move rfl rfl) ?_
            rcases Bool.eq_false_or_eq_true (leqAt lc la) with hg260 | hg260
            ·
              refine WL.on rfl rfl rfl (congrArg Value.bool hg260) ?_
              refine WL.op (v := s3) rfl rfl rfl (Ex.move rfl rfl) ?_
              refine WL.on rfl rfl rfl (congrArg Value.bool hg260) ?_
              refine WL.op (v := s2) rfl rfl rfl (Ex.move rfl rfl) ?_
              refine WL.on rfl rfl rfl (congrArg Value.bool hg260) ?_
              refine WL.call rfl rfl rfl (enterS eg20 (args := [s3, s2]) rfl rfl rfl rfl) (c_leq _ _ lc lb _ (hS.mem (.tail _ (.tail _ (.tail _ (.tail _ (.head _)))))) (hS.mem (.tail _ (.tail _ (.tail _ (.head _))))) (by first | omega | (simp; done) | (simp; omega)) (by first | omega | (simp; done) | (simp; omega))) ?_
              rintro e W261 ⟨rfl, hB⟩
              replace hS := hS.ext hB
              refine ⟨_, rfl, ?_⟩
              refine WL.on rfl rfl rfl rfl ?_
              refine WL.op (v := .bool (leqAt lc lb)) rfl rfl rfl (Ex.pickT rfl (congrArg Value.bool hg260) rfl) ?_
              refine WL.on rfl rfl rfl rfl ?_
              refine WL.op (v := .bool (leqAt lc lb)) rfl rfl rfl (Ex.move rfl rfl) ?_
              rcases Bool.eq_false_or_eq_true (leqAt lc lb) with hg263 | hg263
              ·
                refine WL.on rfl rfl rfl (congrArg Value.bool hg263) ?_
                refine WL.op (v := s3) rfl rfl rfl (Ex.move rfl rfl) ?_
                refine WL.on rfl rfl rfl (congrArg Value.bool hg263) ?_
                refine WL.op (v := v218) rfl rfl rfl (Ex.move rfl rfl) ?_
                refine WL.on rfl rfl rfl (congrArg Value.bool hg263) ?_
                refine WL.call rfl rfl rfl (enterS eg20 (args := [s3, v218]) rfl rfl rfl rfl) (c_leq _ _ lc (meetAt la lb) _ (hS.mem (.tail _ (.tail _ (.tail _ (.tail _ (.head _)))))) (hS.mem (.head _)) (by first | omega | (simp; done) | (simp; omega)) (by first | omega | (simp; done) | (simp; omega))) ?_
                rintro e W264 ⟨rfl, hB⟩
                replace hS := hS.ext hB
                refine ⟨_, rfl, ?_⟩
                have ht265 : (leqAt lc (meetAt la lb)) = true := ll8 la lb lc hg260 hg263
                refine WL.on rfl rfl rfl (congrArg Value.bool hg263) ?_
                refine WL.op (v := .bool (!(leqAt lc (meetAt la lb)))) rfl rfl rfl (Ex.not rfl rfl) ?_
                refine WL.on rfl rfl rfl rfl ?_
                refine WL.op (v := .bool (!(leqAt lc (meetAt la lb)))) rfl rfl rfl (Ex.pickT rfl (congrArg Value.bool hg263) rfl) ?_
                refine WL.op (v := .bool (!(leqAt lc (meetAt la lb)))) rfl rfl rfl (Ex.pickF rfl rfl rfl) ?_
                refine WL.nil ?_
                refine then_normal ?_
                refine WP.condF (congrArg (fun b => Value.bool (!b)) ht265) ?_
                refine WP.skip ?_
                refine then_normal ?_
                exact ⟨_, fr_keep ⟨rfl, rfl, rfl, rfl, trivial⟩, hS⟩
              ·
                refine WL.off (b' := false) rfl rfl rfl rfl rfl rfl (congrArg Value.bool hg263) rfl ?_
                refine WL.off (b' := false) rfl rfl rfl rfl rfl rfl (congrArg Value.bool hg263) rfl ?_
                refine WL.off (b' := false) rfl rfl rfl rfl rfl rfl (congrArg Value.bool hg263) rfl ?_
                refine WL.off (b' := false) rfl rfl rfl rfl rfl rfl (congrArg Value.bool hg263) rfl ?_
                refine WL.on rfl rfl rfl rfl ?_
                refine WL.op (v := .bool false) rfl rfl rfl (Ex.pickF rfl (congrArg Value.bool hg263) rfl) ?_
                refine WL.op (v := .bool false) rfl rfl rfl (Ex.pickF rfl rfl rfl) ?_
                refine WL.nil ?_
                refine then_normal ?_
                refine WP.condF rfl ?_
                refine WP.skip ?_
                refine then_normal ?_
                exact ⟨_, fr_keep ⟨rfl, rfl, rfl, rfl, trivial⟩, hS⟩
            ·
              refine WL.off (b' := false) rfl rfl rfl rfl rfl rfl (congrArg Value.bool hg260) rfl ?_
              refine WL.off (b' := false) rfl rfl rfl rfl rfl rfl (congrArg Value.bool hg260) rfl ?_
              refine WL.off (b' := false) rfl rfl rfl rfl rfl rfl (congrArg Value.bool hg260) rfl ?_
              refine WL.on rfl rfl rfl rfl ?_
              refine WL.op (v := .bool false) rfl rfl rfl (Ex.pickF rfl (congrArg Value.bool hg260) rfl) ?_
              refine WL.on rfl rfl rfl rfl ?_
              refine WL.op (v := .bool false) rfl rfl rfl (Ex.move rfl rfl) ?_
              refine WL.off (b' := false) rfl rfl rfl rfl rfl rfl rfl rfl ?_
              refine WL.off (b' := false) rfl rfl rfl rfl rfl rfl rfl rfl ?_
              refine WL.off (b' := false) rfl rfl rfl rfl rfl rfl rfl rfl ?_
              refine WL.off (b' := false) rfl rfl rfl rfl rfl rfl rfl rfl ?_
              refine WL.on rfl rfl rfl rfl ?_
              refine WL.op (v := .bool false) rfl rfl rfl (Ex.pickF rfl rfl rfl) ?_
              refine WL.op (v := .bool false) rfl rfl rfl (Ex.pickF rfl rfl rfl) ?_
              refine WL.nil ?_
              refine then_normal ?_
              refine WP.condF rfl ?_
              refine WP.skip ?_
              refine then_normal ?_
              exact ⟨_, fr_keep ⟨rfl, rfl, rfl, rfl, trivial⟩, hS⟩
        ·
          rintro a W266 ⟨l0, rfl, hS⟩
          refine WP.seq ?_
          refine WP.seq ?_
          refine WP.region ?_
          refine WL.op (v := v214) rfl rfl rfl (Ex.move rfl rfl) ?_
          refine WL.op (v := s2) rfl rfl rfl (Ex.move rfl rfl) ?_
          refine WL.op (v := s1) rfl rfl rfl (Ex.move rfl rfl) ?_
          refine WL.call rfl rfl rfl (enterS eg16 (args := [s2, s1]) rfl rfl rfl rfl) (c_join _ _ lb la _ (hS.mem (.tail _ (.tail _ (.tail _ (.head _))))) (hS.mem (.tail _ (.tail _ (.head _)))) (by first | omega | (simp; done) | (simp; omega))) ?_
          rintro e W269 ⟨v267, rfl, hB, hv', hn'⟩
          have hN268 : New w v267 := fun b hb => Nat.le_trans hS.bw.size (hn' b hb)
          replace hS := hS.newPin hB (pinSl v267 (normAt (lb ++ la))) hv' hn'
          refine ⟨_, rfl, ?_⟩
          have hq270 := normAt_len2 lb la
          refine WL.call rfl rfl rfl (enterS eg15 (args := [v214, v267]) rfl rfl rfl rfl) (c_rows _ _ (normAt (la ++ lb)) (normAt (lb ++ la)) _ (hS.mem (.tail _ (.tail _ (.head _)))) (hS.mem (.head _))) ?_
          rintro e W271 ⟨rfl, hB⟩
          replace hS := hS.ext hB
          refine ⟨_, rfl, ?_⟩
          have ht272 : (decide (normAt (la ++ lb) = normAt (lb ++ la))) = true := decide_eq_true (ll9 la lb)
          refine WL.op (v := .bool (!(decide (normAt (la ++ lb) = normAt (lb ++ la))))) rfl rfl rfl (Ex.not rfl rfl) ?_
          refine WL.op (v := .bool (!(decide (normAt (la ++ lb) = normAt (lb ++ la))))) rfl rfl rfl (Ex.move rfl rfl) ?_
          refine WL.on rfl rfl rfl (congrArg (fun b => Value.bool (!b)) ht272) ?_
          refine WL.op (v := v214) rfl rfl rfl (Ex.move rfl rfl) ?_
          refine WL.on rfl rfl rfl (congrArg (fun b => Value.bool (!b)) ht272) ?_
          refine WL.op (v := s3) rfl rfl rfl (Ex.move rfl rfl) ?_
          refine WL.on rfl rfl rfl (congrArg (fun b => Value.bool (!b)) ht272) ?_
          refine WL.call rfl rfl rfl (enterS eg16 (args := [v214, s3]) rfl rfl rfl rfl) (c_join _ _ (normAt (la ++ lb)) lc _ (hS.mem (.tail _ (.tail _ (.head _)))) (hS.mem (.tail _ (.tail _ (.tail _ (.tail _ (.tail _ (.head _))))))) (by first | omega | (simp; done) | (simp; omega))) ?_
          rintro e W275 ⟨v273, rfl, hB, hv', hn'⟩
          have hN274 : New w v273 := fun b hb => Nat.le_trans hS.bw.size (hn' b hb)
          replace hS := hS.newPin hB (pinSl v273 (normAt (normAt (la ++ lb) ++ lc))) hv' hn'
          refine ⟨_, rfl, ?_⟩
          have hq276 := normAt_len2 (normAt (la ++ lb)) lc
          refine WL.on rfl rfl rfl (congrArg (fun b => Value.bool (!b)) ht272) ?_
          refine WL.op (v := s1) rfl rfl rfl (Ex.move rfl rfl) ?_
          refine WL.on rfl rfl rfl (congrArg (fun b => Value.bool (!b)) ht272) ?_
          refine WL.op (v := s2) rfl rfl rfl (Ex.move rfl rfl) ?_
          refine WL.on rfl rfl rfl (congrArg (fun b => Value.bool (!b)) ht272) ?_
          refine WL.op (v := s3) rfl rfl rfl (Ex.move rfl rfl) ?_
          refine WL.on rfl rfl rfl (congrArg (fun b => Value.bool (!b)) ht272) ?_
          refine WL.call rfl rfl rfl (enterS eg16 (args := [s2, s3]) rfl rfl rfl rfl) (c_join _ _ lb lc _ (hS.mem (.tail _ (.tail _ (.tail _ (.tail _ (.tail _ (.head _))))))) (hS.mem (.tail _ (.tail _ (.tail _ (.tail _ (.tail _ (.tail _ (.head _)))))))) (by first | omega | (simp; done) | (simp; omega))) ?_
          rintro e W279 ⟨v277, rfl, hB, hv', hn'⟩
          have hN278 : New w v277 := fun b hb => Nat.le_trans hS.bw.size (hn' b hb)
          replace hS := hS.newPin hB (pinSl v277 (normAt (lb ++ lc))) hv' hn'
          refine ⟨_, rfl, ?_⟩
          have hq280 := normAt_len2 lb lc
          refine WL.on rfl rfl rfl (congrArg (fun b => Value.bool (!b)) ht272) ?_
          refine WL.call rfl rfl rfl (enterS eg16 (args := [s1, v277]) rfl rfl rfl rfl) (c_join _ _ la (normAt (lb ++ lc)) _ (hS.mem (.tail _ (.tail _ (.tail _ (.tail _ (.tail _ (.head _))))))) (hS.mem (.head _)) (by first | omega | (simp; done) | (simp; omega))) ?_
          rintro e W283 ⟨v281, rfl, hB, hv', hn'⟩
          have hN282 : New w v281 := fun b hb => Nat.le_trans hS.bw.size (hn' b hb)
          replace hS := hS.newPin hB (pinSl v281 (normAt (la ++ normAt (lb ++ lc)))) hv' hn'
          refine ⟨_, rfl, ?_⟩
          have hq284 := normAt_len2 la (normAt (lb ++ lc))
          refine WL.on rfl rfl rfl (congrArg (fun b => Value.bool (!b)) ht272) ?_
          refine WL.call rfl rfl rfl (enterS eg15 (args := [v273, v281]) rfl rfl rfl rfl) (c_rows _ _ (normAt (normAt (la ++ lb) ++ lc)) (normAt (la ++ normAt (lb ++ lc))) _ (hS.mem (.tail _ (.tail _ (.head _)))) (hS.mem (.head _))) ?_
          rintro e W285 ⟨rfl, hB⟩
          replace hS := hS.ext hB
          refine ⟨_, rfl, ?_⟩
          have ht286 : (decide (normAt (normAt (la ++ lb) ++ lc) = normAt (la ++ normAt (lb ++ lc)))) = true := decide_eq_true (ll10 la lb lc)
          refine WL.on rfl rfl rfl (congrArg (fun b => Value.bool (!b)) ht272) ?_
          refine WL.op (v := .bool (!(decide (normAt (normAt (la ++ lb) ++ lc) = normAt (la ++ normAt (lb ++ lc)))))) rfl rfl rfl (Ex.not rfl rfl) ?_
          refine WL.op (v := .bool (!(decide (normAt (normAt (la ++ lb) ++ lc) = normAt (la ++ normAt (lb ++ lc)))))) rfl rfl rfl (Ex.pickF rfl (congrArg (fun b => Value.bool (!b)) ht272) rfl) ?_
          refine WL.op (v := .bool (!(decide (normAt (normAt (la ++ lb) ++ lc) = normAt (la ++ normAt (lb ++ lc)))))) rfl rfl rfl (Ex.move rfl rfl) ?_
          refine WL.on rfl rfl rfl (congrArg (fun b => Value.bool (!b)) ht286) ?_
          refine WL.op (v := v214) rfl rfl rfl (Ex.move rfl rfl) ?_
          refine WL.on rfl rfl rfl (congrArg (fun b => Value.bool (!b)) ht286) ?_
          refine WL.op (v := s1) rfl rfl rfl (Ex.move rfl rfl) ?_
          refine WL.on rfl rfl rfl (congrArg (fun b => Value.bool (!b)) ht286) ?_
          refine WL.call rfl rfl rfl (enterS eg16 (args := [v214, s1]) rfl rfl rfl rfl) (c_join _ _ (normAt (la ++ lb)) la _ (hS.mem (.tail _ (.tail _ (.tail _ (.tail _ (.tail _ (.head _))))))) (hS.mem (.tail _ (.tail _ (.tail _ (.tail _ (.tail _ (.tail _ (.head _)))))))) (by first | omega | (simp; done) | (simp; omega))) ?_
          rintro e W289 ⟨v287, rfl, hB, hv', hn'⟩
          have hN288 : New w v287 := fun b hb => Nat.le_trans hS.bw.size (hn' b hb)
          replace hS := hS.newPin hB (pinSl v287 (normAt (normAt (la ++ lb) ++ la))) hv' hn'
          refine ⟨_, rfl, ?_⟩
          have hq290 := normAt_len2 (normAt (la ++ lb)) la
          refine WL.on rfl rfl rfl (congrArg (fun b => Value.bool (!b)) ht286) ?_
          refine WL.op (v := v214) rfl rfl rfl (Ex.move rfl rfl) ?_
          refine WL.on rfl rfl rfl (congrArg (fun b => Value.bool (!b)) ht286) ?_
          refine WL.call rfl rfl rfl (enterS eg15 (args := [v287, v214]) rfl rfl rfl rfl) (c_rows _ _ (normAt (normAt (la ++ lb) ++ la)) (normAt (la ++ lb)) _ (hS.mem (.head _)) (hS.mem (.tail _ (.tail _ (.tail _ (.tail _ (.tail _ (.tail _ (.head _))))))))) ?_
          rintro e W291 ⟨rfl, hB⟩
          replace hS := hS.ext hB
          refine ⟨_, rfl, ?_⟩
          have ht292 : (decide (normAt (normAt (la ++ lb) ++ la) = normAt (la ++ lb))) = true := decide_eq_true (ll11 la lb)
          refine WL.on rfl rfl rfl (congrArg (fun b => Value.bool (!b)) ht286) ?_
          refine WL.op (v := .bool (!(decide (normAt (normAt (la ++ lb) ++ la) = normAt (la ++ lb))))) rfl rfl rfl (Ex.not rfl rfl) ?_
          refine WL.op (v := .bool (!(decide (normAt (normAt (la ++ lb) ++ la) = normAt (la ++ lb))))) rfl rfl rfl (Ex.pickF rfl (congrArg (fun b => Value.bool (!b)) ht286) rfl) ?_
          refine WL.nil ?_
          refine then_normal ?_
          refine WP.condF (congrArg (fun b => Value.bool (!b)) ht292) ?_
          refine WP.skip ?_
          refine then_normal ?_
          refine WP.cut (fun a W => ∃ (l0 : Fr), a = fr 155 [] ([(0, s1), (1, s2), (2, s3)] ++ l0) ∧ St w ([]) (pinSl v287 (normAt (normAt (la ++ lb) ++ la)) :: pinSl v281 (normAt (la ++ normAt (lb ++ lc))) :: pinSl v277 (normAt (lb ++ lc)) :: pinSl v273 (normAt (normAt (la ++ lb) ++ lc)) :: pinSl v267 (normAt (lb ++ la)) :: pinSl v218 (meetAt la lb) :: pinSl v214 (normAt (la ++ lb)) :: pinSl s1 la :: pinSl s2 lb :: pinSl s3 lc :: []) W) ?_ ?_
          ·
            refine WP.seq ?_
            refine WP.region ?_
            refine WL.op (v := s1) rfl rfl rfl (Ex.move rfl rfl) ?_
            refine WL.op (v := s2) rfl rfl rfl (Ex.move rfl rfl) ?_
            refine WL.call rfl rfl rfl (enterS eg20 (args := [s1, s2]) rfl rfl rfl rfl) (c_leq _ _ la lb _ (hS.mem (.tail _ (.tail _ (.tail _ (.tail _ (.tail _ (.tail _ (.tail _ (.head _))))))))) (hS.mem (.tail _ (.tail _ (.tail _ (.tail _ (.tail _ (.tail _ (.tail _ (.tail _ (.head _)))))))))) (by first | omega | (simp; done) | (simp; omega)) (by first | omega | (simp; done) | (simp; omega))) ?_
            rintro e W293 ⟨rfl, hB⟩
            replace hS := hS.ext hB
            refine ⟨_, rfl, ?_⟩
            refine WL.op (v := v214) rfl rfl rfl (Ex.move rfl rfl) ?_
            refine WL.op (v := s2) rfl rfl rfl (Ex.move rfl rfl) ?_
            refine WL.call rfl rfl rfl (enterS eg25 (args := [s2]) rfl rfl rfl rfl) (c_norm _ lb _ (hS.mem (.tail _ (.tail _ (.tail _ (.tail _ (.tail _ (.tail _ (.tail _ (.tail _ (.head _)))))))))) (by first | omega | (simp; done) | (simp; omega))) ?_
            rintro e W297 ⟨v295, rfl, hB, hv', hn'⟩
            have hN296 : New w v295 := fun b hb => Nat.le_trans hS.bw.size (hn' b hb)
            replace hS := hS.newPin hB (pinSl v295 (normAt lb)) hv' hn'
            refine ⟨_, rfl, ?_⟩
            have hq298 := normAt_length lb
            refine WL.call rfl rfl rfl (enterS eg15 (args := [v214, v295]) rfl rfl rfl rfl) (c_rows _ _ (normAt (la ++ lb)) (normAt lb) _ (hS.mem (.tail _ (.tail _ (.tail _ (.tail _ (.tail _ (.tail _ (.tail _ (.head _))))))))) (hS.mem (.head _))) ?_
            rintro e W299 ⟨rfl, hB⟩
            replace hS := hS.ext hB
            refine ⟨_, rfl, ?_⟩
            refine WL.op (v := .bool ((leqAt la lb) != (decide (normAt (la ++ lb) = normAt lb)))) rfl rfl rfl (Ex.binop rfl rfl rfl (neqB4 _ _ _ _ _)) ?_
            have ht301 : ((leqAt la lb) != (decide (normAt (la ++ lb) = normAt lb))) = false := by rw [ll12]; simp
            refine WL.op (v := .bool ((leqAt la lb) != (decide (normAt (la ++ lb) = normAt lb)))) rfl rfl rfl (Ex.move rfl rfl) ?_
            refine WL.on rfl rfl rfl (congrArg Value.bool ht301) ?_
            refine WL.op (v := s1) rfl rfl rfl (Ex.move rfl rfl) ?_
            refine WL.on rfl rfl rfl (congrArg Value.bool ht301) ?_
            refine WL.op (v := s2) rfl rfl rfl (Ex.move rfl rfl) ?_
            refine WL.on rfl rfl rfl (congrArg Value.bool ht301) ?_
            refine WL.call rfl rfl rfl (enterS eg20 (args := [s1, s2]) rfl rfl rfl rfl) (c_leq _ _ la lb _ (hS.mem (.tail _ (.tail _ (.tail _ (.tail _ (.tail _ (.tail _ (.tail _ (.tail _ (.head _)))))))))) (hS.mem (.tail _ (.tail _ (.tail _ (.tail _ (.tail _ (.tail _ (.tail _ (.tail _ (.tail _ (.head _))))))))))) (by first | omega | (simp; done) | (simp; omega)) (by first | omega | (simp; done) | (simp; omega))) ?_
            rintro e W302 ⟨rfl, hB⟩
            replace hS := hS.ext hB
            refine ⟨_, rfl, ?_⟩
            refine WL.on rfl rfl rfl (congrArg Value.bool ht301) ?_
            refine WL.op (v := .bool (leqAt la lb)) rfl rfl rfl (Ex.move rfl rfl) ?_
            rcases Bool.eq_false_or_eq_true (leqAt la lb) with hg304 | hg304
            ·
              refine WL.on rfl rfl rfl (congrArg Value.bool hg304) ?_
              refine WL.op (v := s2) rfl rfl rfl (Ex.move rfl rfl) ?_
              refine WL.on rfl rfl rfl (congrArg Value.bool hg304) ?_
              refine WL.op (v := s1) rfl rfl rfl (Ex.move rfl rfl) ?_
              refine WL.on rfl rfl rfl (congrArg Value.bool hg304) ?_
              refine WL.call rfl rfl rfl (enterS eg20 (args := [s2, s1]) rfl rfl rfl rfl) (c_leq _ _ lb la _ (hS.mem (.tail _ (.tail _ (.tail _ (.tail _ (.tail _ (.tail _ (.tail _ (.tail _ (.tail _ (.head _))))))))))) (hS.mem (.tail _ (.tail _ (.tail _ (.tail _ (.tail _ (.tail _ (.tail _ (.tail _ (.head _)))))))))) (by first | omega | (simp; done) | (simp; omega)) (by first | omega | (simp; done) | (simp; omega))) ?_
              rintro e W305 ⟨rfl, hB⟩
              replace hS := hS.ext hB
              refine ⟨_, rfl, ?_⟩
              refine WL.on rfl rfl rfl (congrArg Value.bool ht301) ?_
              refine WL.op (v := .bool (leqAt lb la)) rfl rfl rfl (Ex.pickT rfl (congrArg Value.bool hg304) rfl) ?_
              refine WL.on rfl rfl rfl (congrArg Value.bool ht301) ?_
              refine WL.op (v := s1) rfl rfl rfl (Ex.move rfl rfl) ?_
              refine WL.on rfl rfl rfl (congrArg Value.bool ht301) ?_
              refine WL.op (v := s2) rfl rfl rfl (Ex.move rfl rfl) ?_
              refine WL.on rfl rfl rfl (congrArg Value.bool ht301) ?_
              refine WL.call rfl rfl rfl (enterS eg22 (args := [s1, s2]) rfl rfl rfl rfl) (c_same _ _ la lb _ (hS.mem (.tail _ (.tail _ (.tail _ (.tail _ (.tail _ (.tail _ (.tail _ (.tail _ (.head _)))))))))) (hS.mem (.tail _ (.tail _ (.tail _ (.tail _ (.tail _ (.tail _ (.tail _ (.tail _ (.tail _ (.head _))))))))))) (by first | omega | (simp; done) | (simp; omega)) (by first | omega | (simp; done) | (simp; omega))) ?_
              rintro e W307 ⟨rfl, hB⟩
              replace hS := hS.ext hB
              refine ⟨_, rfl, ?_⟩
              refine WL.on rfl rfl rfl (congrArg Value.bool ht301) ?_
              refine WL.op (v := .bool ((leqAt lb la) != (decide (normAt la = normAt lb)))) rfl rfl rfl (Ex.binop rfl rfl rfl (neqB4 _ _ _ _ _)) ?_
              have ht309 : ((leqAt lb la) != (decide (normAt la = normAt lb))) = false := by rw [← ll13, hg304]; simp
              refine WL.op (v := .bool ((leqAt lb la) != (decide (normAt la = normAt lb)))) rfl rfl rfl (Ex.pickF rfl (congrArg Value.bool ht301) rfl) ?_
              refine WL.nil ?_
              refine then_normal ?_
              refine WP.condF (congrArg Value.bool ht309) ?_
              refine WP.skip ?_
              refine then_normal ?_
              exact ⟨_, fr_keep ⟨rfl, rfl, rfl, trivial⟩, hS.drop 0 1⟩
            ·
              refine WL.off (b' := false) rfl rfl rfl rfl rfl rfl (congrArg Value.bool hg304) rfl ?_
              refine WL.off (b' := false) rfl rfl rfl rfl rfl rfl (congrArg Value.bool hg304) rfl ?_
              refine WL.off (b' := false) rfl rfl rfl rfl rfl rfl (congrArg Value.bool hg304) rfl ?_
              refine WL.on rfl rfl rfl (congrArg Value.bool ht301) ?_
              refine WL.op (v := .bool false) rfl rfl rfl (Ex.pickF rfl (congrArg Value.bool hg304) rfl) ?_
              refine WL.on rfl rfl rfl (congrArg Value.bool ht301) ?_
              refine WL.op (v := s1) rfl rfl rfl (Ex.move rfl rfl) ?_
              refine WL.on rfl rfl rfl (congrArg Value.bool ht301) ?_
              refine WL.op (v := s2) rfl rfl rfl (Ex.move rfl rfl) ?_
              refine WL.on rfl rfl rfl (congrArg Value.bool ht301) ?_
              refine WL.call rfl rfl rfl (enterS eg22 (args := [s1, s2]) rfl rfl rfl rfl) (c_same _ _ la lb _ (hS.mem (.tail _ (.tail _ (.tail _ (.tail _ (.tail _ (.tail _ (.tail _ (.tail _ (.head _)))))))))) (hS.mem (.tail _ (.tail _ (.tail _ (.tail _ (.tail _ (.tail _ (.tail _ (.tail _ (.tail _ (.head _))))))))))) (by first | omega | (simp; done) | (simp; omega)) (by first | omega | (simp; done) | (simp; omega))) ?_
              rintro e W310 ⟨rfl, hB⟩
              replace hS := hS.ext hB
              refine ⟨_, rfl, ?_⟩
              refine WL.on rfl rfl rfl (congrArg Value.bool ht301) ?_
              refine WL.op (v := .bool (false != (decide (normAt la = normAt lb)))) rfl rfl rfl (Ex.binop rfl rfl rfl (neqB4 _ _ _ _ _)) ?_
              have ht312 : (false != (decide (normAt la = normAt lb))) = false := by rw [← ll13, hg304]; simp
              refine WL.op (v := .bool (false != (decide (normAt la = normAt lb)))) rfl rfl rfl (Ex.pickF rfl (congrArg Value.bool ht301) rfl) ?_
              refine WL.nil ?_
              refine then_normal ?_
              refine WP.condF (congrArg Value.bool ht312) ?_
              refine WP.skip ?_
              refine then_normal ?_
              exact ⟨_, fr_keep ⟨rfl, rfl, rfl, trivial⟩, hS.drop 0 1⟩
          ·
            rintro a W313 ⟨l0, rfl, hS⟩
            refine WP.seq ?_
            refine WP.region ?_
            refine WL.op (v := s1) rfl rfl rfl (Ex.move rfl rfl) ?_
            refine WL.op (v := s2) rfl rfl rfl (Ex.move rfl rfl) ?_
            refine WL.op (v := s3) rfl rfl rfl (Ex.move rfl rfl) ?_
            refine WL.call rfl rfl rfl (enterS eg16 (args := [s2, s3]) rfl rfl rfl rfl) (c_join _ _ lb lc _ (hS.mem (.tail _ (.tail _ (.tail _ (.tail _ (.tail _ (.tail _ (.tail _ (.tail _ (.head _)))))))))) (hS.mem (.tail _ (.tail _ (.tail _ (.tail _ (.tail _ (.tail _ (.tail _ (.tail _ (.tail _ (.head _))))))))))) (by first | omega | (simp; done) | (simp; omega))) ?_
            rintro e W316 ⟨v314, rfl, hB, hv', hn'⟩
            have hN315 : New w v314 := fun b hb => Nat.le_trans hS.bw.size (hn' b hb)
            replace hS := hS.newPin hB (pinSl v314 (normAt (lb ++ lc))) hv' hn'
            refine ⟨_, rfl, ?_⟩
            have hq317 := normAt_len2 lb lc
            refine WL.call rfl rfl rfl (enterS eg18 (args := [s1, v314]) rfl rfl rfl rfl) (c_meet _ _ la (normAt (lb ++ lc)) _ (hS.mem (.tail _ (.tail _ (.tail _ (.tail _ (.tail _ (.tail _ (.tail _ (.tail _ (.head _)))))))))) (hS.mem (.head _)) (by first | omega | (simp; done) | (simp; omega)) (by first | omega | (simp; done) | (simp; omega))) ?_
            rintro e W320 ⟨v318, rfl, hB, hv', hn'⟩
            have hN319 : New w v318 := fun b hb => Nat.le_trans hS.bw.size (hn' b hb)
            replace hS := hS.newPin hB (pinSl v318 (meetAt la (normAt (lb ++ lc)))) hv' hn'
            refine ⟨_, rfl, ?_⟩
            have hq321 := meetAt_length la (normAt (lb ++ lc))
            refine WL.op (v := s1) rfl rfl rfl (Ex.move rfl rfl) ?_
            refine WL.op (v := s2) rfl rfl rfl (Ex.move rfl rfl) ?_
            refine WL.call rfl rfl rfl (enterS eg18 (args := [s1, s2]) rfl rfl rfl rfl) (c_meet _ _ la lb _ (hS.mem (.tail _ (.tail _ (.tail _ (.tail _ (.tail _ (.tail _ (.tail _ (.tail _ (.tail _ (.head _))))))))))) (hS.mem (.tail _ (.tail _ (.tail _ (.tail _ (.tail _ (.tail _ (.tail _ (.tail _ (.tail _ (.tail _ (.head _)))))))))))) (by first | omega | (simp; done) | (simp; omega)) (by first | omega | (simp; done) | (simp; omega))) ?_
            rintro e W324 ⟨v322, rfl, hB, hv', hn'⟩
            have hN323 : New w v322 := fun b hb => Nat.le_trans hS.bw.size (hn' b hb)
            replace hS := hS.newPin hB (pinSl v322 (meetAt la lb)) hv' hn'
            refine ⟨_, rfl, ?_⟩
            have hq325 := meetAt_length la lb
            refine WL.op (v := s1) rfl rfl rfl (Ex.move rfl rfl) ?_
            refine WL.op (v := s3) rfl rfl rfl (Ex.move rfl rfl) ?_
            refine WL.call rfl rfl rfl (enterS eg18 (args := [s1, s3]) rfl rfl rfl rfl) (c_meet _ _ la lc _ (hS.mem (.tail _ (.tail _ (.tail _ (.tail _ (.tail _ (.tail _ (.tail _ (.tail _ (.tail _ (.tail _ (.head _)))))))))))) (hS.mem (.tail _ (.tail _ (.tail _ (.tail _ (.tail _ (.tail _ (.tail _ (.tail _ (.tail _ (.tail _ (.tail _ (.tail _ (.head _)))))))))))))) (by first | omega | (simp; done) | (simp; omega)) (by first | omega | (simp; done) | (simp; omega))) ?_
            rintro e W328 ⟨v326, rfl, hB, hv', hn'⟩
            have hN327 : New w v326 := fun b hb => Nat.le_trans hS.bw.size (hn' b hb)
            replace hS := hS.newPin hB (pinSl v326 (meetAt la lc)) hv' hn'
            refine ⟨_, rfl, ?_⟩
            have hq329 := meetAt_length la lc
            refine WL.call rfl rfl rfl (enterS eg16 (args := [v322, v326]) rfl rfl rfl rfl) (c_join _ _ (meetAt la lb) (meetAt la lc) _ (hS.mem (.tail _ (.head _))) (hS.mem (.head _)) (by first | omega | (simp; done) | (simp; omega))) ?_
            rintro e W332 ⟨v330, rfl, hB, hv', hn'⟩
            have hN331 : New w v330 := fun b hb => Nat.le_trans hS.bw.size (hn' b hb)
            replace hS := hS.newPin hB (pinSl v330 (normAt (meetAt la lb ++ meetAt la lc))) hv' hn'
            refine ⟨_, rfl, ?_⟩
            have hq333 := normAt_len2 (meetAt la lb) (meetAt la lc)
            refine WL.call rfl rfl rfl (enterS eg15 (args := [v318, v330]) rfl rfl rfl rfl) (c_rows _ _ (meetAt la (normAt (lb ++ lc))) (normAt (meetAt la lb ++ meetAt la lc)) _ (hS.mem (.tail _ (.tail _ (.tail _ (.head _))))) (hS.mem (.head _))) ?_
            rintro e W334 ⟨rfl, hB⟩
            replace hS := hS.ext hB
            refine ⟨_, rfl, ?_⟩
            have ht335 : (decide (meetAt la (normAt (lb ++ lc)) = normAt (meetAt la lb ++ meetAt la lc))) = true := decide_eq_true (ll14 la lb lc)
            refine WL.op (v := .bool (decide (meetAt la (normAt (lb ++ lc)) = normAt (meetAt la lb ++ meetAt la lc)))) rfl rfl rfl (Ex.move rfl rfl) ?_
            refine WL.on rfl rfl rfl (congrArg Value.bool ht335) ?_
            refine WL.call rfl rfl rfl (enterS eg14 (args := []) rfl rfl rfl rfl) (c_alive10 _) ?_
            rintro e W336 ⟨rfl, hB⟩
            replace hS := hS.ext hB
            refine ⟨_, rfl, ?_⟩
            refine WL.op (v := .bool true) rfl rfl rfl (Ex.pickT rfl (congrArg Value.bool ht335) rfl) ?_
            refine WL.op (v := .bool true) rfl rfl rfl (Ex.assign rfl rfl) ?_
            refine WL.nil ?_
            refine then_normal ?_
            refine WP.ret ?_
            refine ?_
            refine rt1 (v := .bool true) rfl rfl ?_
            exact ⟨rfl, hS.bw⟩
end Go.Proofs.Ythidakffgcjjiaa
