/- The walks of the statements of layer 11: the probe, DeltaLeast. -/
import Derived.Test.YthidakffgcjjiaaDelta
namespace Go.Proofs.Ythidakffgcjjiaa
open Go.RowKit Go.Sort

theorem c_parts (v : Value) (l : List At) (w : World) (hv : Sl w v l) (hl : l.length ≤ 1048576) : Calls Try.prog 50 #[v] w fun e w' => ∃ v' rs, e = .returned v' ∧ Bw w w' ∧ RowsNew w w' v' ((normAt l).map (fun a => [a])) rs := by
  obtain ⟨p, cap, rfl⟩ := hv.len
  exact c_parts0 ⟨p, l.length, cap⟩ l w hv hl
set_option maxRecDepth 100000 in
set_option maxHeartbeats 1000000 in
theorem c_alive11 (w : World) :
    Calls Try.prog 33 #[] w fun e w' => e = .returned (.bool true) ∧ Bw w w' := by
  have hS := St.begin (w := w) (pins := []) trivial
  refine enter (n := 28) Try.func33 rfl rfl (Nat.le_of_ble_eq_true rfl) (l := []) rfl ?_
  refine WP.seq ?_
  refine WP.region ?_
  refine WL.op (v := .bool false) rfl rfl rfl (Ex.assign rfl rfl) ?_
  refine WL.nil ?_
  refine then_normal ?_
  refine WP.seq ?_
  refine WP.region ?_
  refine WL.op (v := .agg (Nm.mk (97 : UInt8) 0 0 0 0 0 0 0).enc) rfl rfl rfl (Ex.build (ps := [(0, .int .u8 97)]) rfl rfl (by kernel_rfl)) ?_
  refine WL.op (v := .agg (Ky.mk (2 : UInt8) (1 : UInt16) (Nm.mk (97 : UInt8) 0 0 0 0 0 0 0) 0 0).enc) rfl rfl rfl (Ex.build (ps := [(0, .int .u8 2), (1, .int .u16 1), (2, .agg (Nm.mk (97 : UInt8) 0 0 0 0 0 0 0).enc)]) rfl rfl (by kernel_rfl)) ?_
  refine WL.op (v := .agg (Vl.mk (3 : UInt64) Nm.zero).enc) rfl rfl rfl (Ex.build (ps := [(0, .int .u64 3)]) rfl rfl (by kernel_rfl)) ?_
  refine WL.op (v := .agg (At.mk (Ky.mk (2 : UInt8) (1 : UInt16) (Nm.mk (97 : UInt8) 0 0 0 0 0 0 0) 0 0) (Vl.mk (3 : UInt64) Nm.zero)).enc) rfl rfl rfl (Ex.build (ps := [(0, .agg (Ky.mk (2 : UInt8) (1 : UInt16) (Nm.mk (97 : UInt8) 0 0 0 0 0 0 0) 0 0).enc), (1, .agg (Vl.mk (3 : UInt64) Nm.zero).enc)]) rfl rfl (by kernel_rfl)) ?_
  refine WL.buildSlice (ps := [(0, .agg (At.mk (Ky.mk (2 : UInt8) (1 : UInt16) (Nm.mk (97 : UInt8) 0 0 0 0 0 0 0) 0 0) (Vl.mk (3 : UInt64) Nm.zero)).enc)]) (C := (At.mk (Ky.mk (2 : UInt8) (1 : UInt16) (Nm.mk (97 : UInt8) 0 0 0 0 0 0 0) 0 0) (Vl.mk (3 : UInt64) Nm.zero)).enc) (E := 71) rfl (fun _ => by kernel_rfl) hS rfl rfl rfl rfl (fun b990 W991 hS => ?_)
  have hNb990 : w.heap.size ≤ b990 := hS.ge 0 rfl
  replace hS := hS.slice (α := At) (xs := [At.mk (Ky.mk (2 : UInt8) (1 : UInt16) (Nm.mk (97 : UInt8) 0 0 0 0 0 0 0) 0 0) (Vl.mk (3 : UInt64) Nm.zero)]) (cap := 1) rfl (by simp)
  refine WL.op (v := .slice (some ⟨b990, 0, none⟩) 1 1) rfl rfl rfl (Ex.assign rfl rfl) ?_
  refine WL.nil ?_
  refine then_normal ?_
  refine WP.seq ?_
  refine WP.region ?_
  refine WL.op (v := .slice (some ⟨b990, 0, none⟩) 1 1) rfl rfl rfl (Ex.move rfl rfl) ?_
  refine WL.op (v := .slice (some ⟨b990, 0, none⟩) 1 1) rfl rfl rfl (Ex.move rfl rfl) ?_
  refine WL.call rfl rfl rfl (enterS eg34 (args := [.slice (some ⟨b990, 0, none⟩) 1 1, .slice (some ⟨b990, 0, none⟩) 1 1]) rfl rfl rfl rfl) (c_diff _ _ ([At.mk (Ky.mk (2 : UInt8) (1 : UInt16) (Nm.mk (97 : UInt8) 0 0 0 0 0 0 0) 0 0) (Vl.mk (3 : UInt64) Nm.zero)]) ([At.mk (Ky.mk (2 : UInt8) (1 : UInt16) (Nm.mk (97 : UInt8) 0 0 0 0 0 0 0) 0 0) (Vl.mk (3 : UInt64) Nm.zero)]) _ (hS.mem (.head _)) (hS.mem (.head _)) (by first | omega | (simp; done) | (simp; omega)) (by first | omega | (simp; done) | (simp; omega))) ?_
  rintro e W994 ⟨v992, rfl, hB, hv', hn'⟩
  have hN993 : New w v992 := fun b hb => Nat.le_trans hS.bw.size (hn' b hb)
  replace hS := hS.newPin hB (pinSl v992 (diffAt ([At.mk (Ky.mk (2 : UInt8) (1 : UInt16) (Nm.mk (97 : UInt8) 0 0 0 0 0 0 0) 0 0) (Vl.mk (3 : UInt64) Nm.zero)]) ([At.mk (Ky.mk (2 : UInt8) (1 : UInt16) (Nm.mk (97 : UInt8) 0 0 0 0 0 0 0) 0 0) (Vl.mk (3 : UInt64) Nm.zero)]))) hv' hn'
  refine ⟨_, rfl, ?_⟩
  have hq995 := diff_length ([At.mk (Ky.mk (2 : UInt8) (1 : UInt16) (Nm.mk (97 : UInt8) 0 0 0 0 0 0 0) 0 0) (Vl.mk (3 : UInt64) Nm.zero)]) ([At.mk (Ky.mk (2 : UInt8) (1 : UInt16) (Nm.mk (97 : UInt8) 0 0 0 0 0 0 0) 0 0) (Vl.mk (3 : UInt64) Nm.zero)])
  have hl996 : (diffAt ([At.mk (Ky.mk (2 : UInt8) (1 : UInt16) (Nm.mk (97 : UInt8) 0 0 0 0 0 0 0) 0 0) (Vl.mk (3 : UInt64) Nm.zero)]) ([At.mk (Ky.mk (2 : UInt8) (1 : UInt16) (Nm.mk (97 : UInt8) 0 0 0 0 0 0 0) 0 0) (Vl.mk (3 : UInt64) Nm.zero)])).length < 4611686018427387904 := (hS.mem (.head _) : Sl _ _ _).lt
  refine WL.op (v := .int .i64 (((diffAt ([At.mk (Ky.mk (2 : UInt8) (1 : UInt16) (Nm.mk (97 : UInt8) 0 0 0 0 0 0 0) 0 0) (Vl.mk (3 : UInt64) Nm.zero)]) ([At.mk (Ky.mk (2 : UInt8) (1 : UInt16) (Nm.mk (97 : UInt8) 0 0 0 0 0 0 0) 0 0) (Vl.mk (3 : UInt64) Nm.zero)])).length : Nat) : Int)) rfl rfl rfl (Ex.lenSl (l := diffAt ([At.mk (Ky.mk (2 : UInt8) (1 : UInt16) (Nm.mk (97 : UInt8) 0 0 0 0 0 0 0) 0 0) (Vl.mk (3 : UInt64) Nm.zero)]) ([At.mk (Ky.mk (2 : UInt8) (1 : UInt16) (Nm.mk (97 : UInt8) 0 0 0 0 0 0 0) 0 0) (Vl.mk (3 : UInt64) Nm.zero)])) ⟨_, under22⟩ rfl rfl (hS.mem (.head _))) ?_
  refine WL.op (v := .bool (decide ((((diffAt ([At.mk (Ky.mk (2 : UInt8) (1 : UInt16) (Nm.mk (97 : UInt8) 0 0 0 0 0 0 0) 0 0) (Vl.mk (3 : UInt64) Nm.zero)]) ([At.mk (Ky.mk (2 : UInt8) (1 : UInt16) (Nm.mk (97 : UInt8) 0 0 0 0 0 0 0) 0 0) (Vl.mk (3 : UInt64) Nm.zero)])).length : Nat) : Int) = 0))) rfl rfl rfl (Ex.eq rfl rfl rfl) ?_
  have ht997 : (decide ((((diffAt ([At.mk (Ky.mk (2 : UInt8) (1 : UInt16) (Nm.mk (97 : UInt8) 0 0 0 0 0 0 0) 0 0) (Vl.mk (3 : UInt64) Nm.zero)]) ([At.mk (Ky.mk (2 : UInt8) (1 : UInt16) (Nm.mk (97 : UInt8) 0 0 0 0 0 0 0) 0 0) (Vl.mk (3 : UInt64) Nm.zero)])).length : Nat) : Int) = 0)) = true := by kernel_rfl
  refine WL.op (v := .bool (decide ((((diffAt ([At.mk (Ky.mk (2 : UInt8) (1 : UInt16) (Nm.mk (97 : UInt8) 0 0 0 0 0 0 0) 0 0) (Vl.mk (3 : UInt64) Nm.zero)]) ([At.mk (Ky.mk (2 : UInt8) (1 : UInt16) (Nm.mk (97 : UInt8) 0 0 0 0 0 0 0) 0 0) (Vl.mk (3 : UInt64) Nm.zero)])).length : Nat) : Int) = 0))) rfl rfl rfl (Ex.move rfl rfl) ?_
  refine WL.on rfl rfl rfl (congrArg Value.bool ht997) ?_
  refine WL.op (v := .slice (some ⟨b990, 0, none⟩) 1 1) rfl rfl rfl (Ex.move rfl rfl) ?_
  refine WL.on rfl rfl rfl (congrArg Value.bool ht997) ?_
  refine WL.call rfl rfl rfl (enterS eg34 (args := [.slice (some ⟨b990, 0, none⟩) 1 1, .slice none 0 0]) rfl rfl rfl rfl) (c_diff _ _ ([At.mk (Ky.mk (2 : UInt8) (1 : UInt16) (Nm.mk (97 : UInt8) 0 0 0 0 0 0 0) 0 0) (Vl.mk (3 : UInt64) Nm.zero)]) ([] : List At) _ (hS.mem (.tail _ (.head _))) Sl.nil (by first | omega | (simp; done) | (simp; omega)) (by first | omega | (simp; done) | (simp; omega))) ?_
  rintro e W1000 ⟨v998, rfl, hB, hv', hn'⟩
  have hN999 : New w v998 := fun b hb => Nat.le_trans hS.bw.size (hn' b hb)
  replace hS := hS.newPin hB (pinSl v998 (diffAt ([At.mk (Ky.mk (2 : UInt8) (1 : UInt16) (Nm.mk (97 : UInt8) 0 0 0 0 0 0 0) 0 0) (Vl.mk (3 : UInt64) Nm.zero)]) ([] : List At))) hv' hn'
  refine ⟨_, rfl, ?_⟩
  have hq1001 := diff_length ([At.mk (Ky.mk (2 : UInt8) (1 : UInt16) (Nm.mk (97 : UInt8) 0 0 0 0 0 0 0) 0 0) (Vl.mk (3 : UInt64) Nm.zero)]) ([] : List At)
  refine WL.on rfl rfl rfl (congrArg Value.bool ht997) ?_
  refine WL.op (v := .slice (some ⟨b990, 0, none⟩) 1 1) rfl rfl rfl (Ex.move rfl rfl) ?_
  refine WL.on rfl rfl rfl (congrArg Value.bool ht997) ?_
  refine WL.call rfl rfl rfl (enterS eg15 (args := [v998, .slice (some ⟨b990, 0, none⟩) 1 1]) rfl rfl rfl rfl) (c_rows _ _ (diffAt ([At.mk (Ky.mk (2 : UInt8) (1 : UInt16) (Nm.mk (97 : UInt8) 0 0 0 0 0 0 0) 0 0) (Vl.mk (3 : UInt64) Nm.zero)]) ([] : List At)) ([At.mk (Ky.mk (2 : UInt8) (1 : UInt16) (Nm.mk (97 : UInt8) 0 0 0 0 0 0 0) 0 0) (Vl.mk (3 : UInt64) Nm.zero)]) _ (hS.mem (.head _)) (hS.mem (.tail _ (.tail _ (.head _))))) ?_
  rintro e W1002 ⟨rfl, hB⟩
  replace hS := hS.ext hB
  refine ⟨_, rfl, ?_⟩
  have ht1003 : (decide (diffAt ([At.mk (Ky.mk (2 : UInt8) (1 : UInt16) (Nm.mk (97 : UInt8) 0 0 0 0 0 0 0) 0 0) (Vl.mk (3 : UInt64) Nm.zero)]) ([] : List At) = [At.mk (Ky.mk (2 : UInt8) (1 : UInt16) (Nm.mk (97 : UInt8) 0 0 0 0 0 0 0) 0 0) (Vl.mk (3 : UInt64) Nm.zero)])) = true := by kernel_rfl
  refine WL.op (v := .bool (decide (diffAt ([At.mk (Ky.mk (2 : UInt8) (1 : UInt16) (Nm.mk (97 : UInt8) 0 0 0 0 0 0 0) 0 0) (Vl.mk (3 : UInt64) Nm.zero)]) ([] : List At) = [At.mk (Ky.mk (2 : UInt8) (1 : UInt16) (Nm.mk (97 : UInt8) 0 0 0 0 0 0 0) 0 0) (Vl.mk (3 : UInt64) Nm.zero)]))) rfl rfl rfl (Ex.pickT rfl (congrArg Value.bool ht997) rfl) ?_
  refine WL.op (v := .bool (decide (diffAt ([At.mk (Ky.mk (2 : UInt8) (1 : UInt16) (Nm.mk (97 : UInt8) 0 0 0 0 0 0 0) 0 0) (Vl.mk (3 : UInt64) Nm.zero)]) ([] : List At) = [At.mk (Ky.mk (2 : UInt8) (1 : UInt16) (Nm.mk (97 : UInt8) 0 0 0 0 0 0 0) 0 0) (Vl.mk (3 : UInt64) Nm.zero)]))) rfl rfl rfl (Ex.move rfl rfl) ?_
  refine WL.on rfl rfl rfl (congrArg Value.bool ht1003) ?_
  refine WL.op (v := .slice (some ⟨b990, 0, none⟩) 1 1) rfl rfl rfl (Ex.move rfl rfl) ?_
  refine WL.on rfl rfl rfl (congrArg Value.bool ht1003) ?_
  refine WL.call rfl rfl rfl (enterS eg50 (args := [.slice (some ⟨b990, 0, none⟩) 1 1]) rfl rfl rfl rfl) (c_parts _ ([At.mk (Ky.mk (2 : UInt8) (1 : UInt16) (Nm.mk (97 : UInt8) 0 0 0 0 0 0 0) 0 0) (Vl.mk (3 : UInt64) Nm.zero)]) _ (hS.mem (.tail _ (.tail _ (.head _)))) (by first | omega | (simp; done) | (simp; omega))) ?_
  rintro e W1007 ⟨v1004, rs1005, rfl, hB, hR1006⟩
  have hPv1004 : ((normAt ([At.mk (Ky.mk (2 : UInt8) (1 : UInt16) (Nm.mk (97 : UInt8) 0 0 0 0 0 0 0) 0 0) (Vl.mk (3 : UInt64) Nm.zero)])).map (fun a => [a])).flatten.length ≤ 1048576 := by rw [ones_flatten]; exact Nat.le_trans (normAt_length _) (by first | omega | (simp; done) | (simp; omega))
  have hQv1004 : rs1005.length ≤ 1048576 := by rw [hR1006.len, List.length_map]; exact Nat.le_trans (normAt_length _) (by first | omega | (simp; done) | (simp; omega))
  have hrl1008 := hR1006.len
  replace hS := hS.newRows hB hR1006
  refine ⟨_, rfl, ?_⟩
  refine WL.on rfl rfl rfl (congrArg Value.bool ht1003) ?_
  have hl1009 : rs1005.length < 4611686018427387904 := (hS.mem (.tail _ (.head _)) : Sl _ _ _).lt
  refine WL.op (v := .int .i64 (rs1005.length : Int)) rfl rfl rfl (Ex.lenSl (l := rs1005) ⟨_, under42⟩ rfl rfl (hS.mem (.tail _ (.head _)))) ?_
  refine WL.on rfl rfl rfl (congrArg Value.bool ht1003) ?_
  refine WL.op (v := .bool (decide ((rs1005.length : Int) = 1))) rfl rfl rfl (Ex.eq rfl rfl rfl) ?_
  have ht1010 : (decide ((rs1005.length : Int) = 1)) = true := by rw [hR1006.len]; kernel_rfl
  refine WL.op (v := .bool (decide ((rs1005.length : Int) = 1))) rfl rfl rfl (Ex.pickT rfl (congrArg Value.bool ht1003) rfl) ?_
  refine WL.op (v := .bool (decide ((rs1005.length : Int) = 1))) rfl rfl rfl (Ex.move rfl rfl) ?_
  refine WL.on rfl rfl rfl (congrArg Value.bool ht1010) ?_
  refine WL.op (v := .slice (some ⟨b990, 0, none⟩) 1 1) rfl rfl rfl (Ex.move rfl rfl) ?_
  refine WL.on rfl rfl rfl (congrArg Value.bool ht1010) ?_
  refine WL.call rfl rfl rfl (enterS eg51 (args := [.slice (some ⟨b990, 0, none⟩) 1 1]) rfl rfl rfl rfl) (c_irreducible _ ([At.mk (Ky.mk (2 : UInt8) (1 : UInt16) (Nm.mk (97 : UInt8) 0 0 0 0 0 0 0) 0 0) (Vl.mk (3 : UInt64) Nm.zero)]) _ (hS.mem (.tail _ (.tail _ (.tail _ (.tail _ (.head _)))))) (by first | omega | (simp; done) | (simp; omega))) ?_
  rintro e W1011 ⟨rfl, hB⟩
  replace hS := hS.ext hB
  refine ⟨_, rfl, ?_⟩
  have ht1012 : (decide (((normAt ([At.mk (Ky.mk (2 : UInt8) (1 : UInt16) (Nm.mk (97 : UInt8) 0 0 0 0 0 0 0) 0 0) (Vl.mk (3 : UInt64) Nm.zero)])).length : Int) = 1)) = true := by kernel_rfl
  refine WL.op (v := .bool (decide (((normAt ([At.mk (Ky.mk (2 : UInt8) (1 : UInt16) (Nm.mk (97 : UInt8) 0 0 0 0 0 0 0) 0 0) (Vl.mk (3 : UInt64) Nm.zero)])).length : Int) = 1))) rfl rfl rfl (Ex.pickT rfl (congrArg Value.bool ht1010) rfl) ?_
  refine WL.op (v := .bool (decide (((normAt ([At.mk (Ky.mk (2 : UInt8) (1 : UInt16) (Nm.mk (97 : UInt8) 0 0 0 0 0 0 0) 0 0) (Vl.mk (3 : UInt64) Nm.zero)])).length : Int) = 1))) rfl rfl rfl (Ex.assign rfl rfl) ?_
  refine WL.nil ?_
  refine then_normal ?_
  refine WP.ret ?_
  refine ?_
  refine rt1 (v := .bool (decide (((normAt ([At.mk (Ky.mk (2 : UInt8) (1 : UInt16) (Nm.mk (97 : UInt8) 0 0 0 0 0 0 0) 0 0) (Vl.mk (3 : UInt64) Nm.zero)])).length : Int) = 1))) rfl rfl ?_
  exact ⟨by rw [ht1012], hS.bw⟩
set_option maxRecDepth 100000 in
set_option maxHeartbeats 4000000 in
theorem c_deltaLeast0 (s1 s2 s3 : Sv) (la lb lc : List At) (w : World) (ha : Sl w s1.v la) (hb : Sl w s2.v lb) (hc : Sl w s3.v lc) :
    Calls Try.prog 6 #[s1.v, s2.v, s3.v] w fun e w' => e = .returned (.bool true) ∧ Bw w w' := by
  have hS := St.begin (w := w) (pins := pinSl s1.v la :: pinSl s2.v lb :: pinSl s3.v lc :: []) ⟨ha, hb, hc, trivial⟩
  refine enter (n := 103) Try.func6 rfl rfl (Nat.le_of_ble_eq_true rfl) (l := [(0, s1.v), (1, s2.v), (2, s3.v)]) rfl ?_
  refine WP.seq ?_
  refine WP.region ?_
  refine WL.op (v := .bool false) rfl rfl rfl (Ex.assign rfl rfl) ?_
  refine WL.nil ?_
  refine then_normal ?_
  refine WP.seq ?_
  refine WP.seq ?_
  refine WP.region ?_
  refine WL.op (v := s1.v) rfl rfl rfl (Ex.move rfl rfl) ?_
  have hl1013 : la.length < 4611686018427387904 := (hS.mem (.head _) : Sl _ _ _).lt
  refine WL.op (v := .int .i64 (la.length : Int)) rfl rfl rfl (Ex.lenSl (l := la) ⟨_, under22⟩ rfl rfl (hS.mem (.head _))) ?_
  refine WL.op (v := .bool (decide (40 < (la.length : Int)))) rfl rfl rfl (Ex.gt rfl rfl rfl) ?_
  refine WL.op (v := .bool (decide (40 < (la.length : Int)))) rfl rfl rfl (Ex.move rfl rfl) ?_
  rcases Bool.eq_false_or_eq_true (decide (40 < (la.length : Int))) with hg1014 | hg1014
  ·
    have hg1014' : 40 < (la.length : Int) := by simpa using hg1014
    refine WL.off (b' := true) rfl rfl rfl rfl rfl rfl (congrArg Value.bool hg1014) rfl ?_
    refine WL.off (b' := true) rfl rfl rfl rfl rfl rfl (congrArg Value.bool hg1014) rfl ?_
    refine WL.off (b' := true) rfl rfl rfl rfl rfl rfl (congrArg Value.bool hg1014) rfl ?_
    refine WL.op (v := .bool true) rfl rfl rfl (Ex.pickT rfl (congrArg Value.bool hg1014) rfl) ?_
    refine WL.op (v := .bool true) rfl rfl rfl (Ex.move rfl rfl) ?_
    refine WL.off (b' := true) rfl rfl rfl rfl rfl rfl rfl rfl ?_
    refine WL.off (b' := true) rfl rfl rfl rfl rfl rfl rfl rfl ?_
    refine WL.off (b' := true) rfl rfl rfl rfl rfl rfl rfl rfl ?_
    refine WL.op (v := .bool true) rfl rfl rfl (Ex.pickT rfl rfl rfl) ?_
    refine WL.nil ?_
    refine then_normal ?_
    refine WP.condT rfl ?_
    refine WP.seq ?_
    refine WP.region ?_
    refine WL.call rfl rfl rfl (enterS eg33 (args := []) rfl rfl rfl rfl) (c_alive11 _) ?_
    rintro e W1015 ⟨rfl, hB⟩
    replace hS := hS.ext hB
    refine ⟨_, rfl, ?_⟩
    refine WL.op (v := .bool true) rfl rfl rfl (Ex.assign rfl rfl) ?_
    refine WL.nil ?_
    refine then_normal ?_
    refine WP.ret ?_
    refine then_ret (?_)
    refine rt1 (v := .bool true) rfl rfl ?_
    exact ⟨rfl, hS.bw⟩
  ·
    have hg1014' : ¬ (40 < (la.length : Int)) := by simpa using hg1014
    refine WL.on rfl rfl rfl (congrArg Value.bool hg1014) ?_
    refine WL.op (v := s2.v) rfl rfl rfl (Ex.move rfl rfl) ?_
    refine WL.on rfl rfl rfl (congrArg Value.bool hg1014) ?_
    have hl1016 : lb.length < 4611686018427387904 := (hS.mem (.tail _ (.head _)) : Sl _ _ _).lt
    refine WL.op (v := .int .i64 (lb.length : Int)) rfl rfl rfl (Ex.lenSl (l := lb) ⟨_, under22⟩ rfl rfl (hS.mem (.tail _ (.head _)))) ?_
    refine WL.on rfl rfl rfl (congrArg Value.bool hg1014) ?_
    refine WL.op (v := .bool (decide (40 < (lb.length : Int)))) rfl rfl rfl (Ex.gt rfl rfl rfl) ?_
    refine WL.op (v := .bool (decide (40 < (lb.length : Int)))) rfl rfl rfl (Ex.pickF rfl (congrArg Value.bool hg1014) rfl) ?_
    refine WL.op (v := .bool (decide (40 < (lb.length : Int)))) rfl rfl rfl (Ex.move rfl rfl) ?_
    rcases Bool.eq_false_or_eq_true (decide (40 < (lb.length : Int))) with hg1017 | hg1017
    ·
      have hg1017' : 40 < (lb.length : Int) := by simpa using hg1017
      refine WL.off (b' := true) rfl rfl rfl rfl rfl rfl (congrArg Value.bool hg1017) rfl ?_
      refine WL.off (b' := true) rfl rfl rfl rfl rfl rfl (congrArg Value.bool hg1017) rfl ?_
      refine WL.off (b' := true) rfl rfl rfl rfl rfl rfl (congrArg Value.bool hg1017) rfl ?_
      refine WL.op (v := .bool true) rfl rfl rfl (Ex.pickT rfl (congrArg Value.bool hg1017) rfl) ?_
      refine WL.nil ?_
      refine then_normal ?_
      refine WP.condT rfl ?_
      refine WP.seq ?_
      refine WP.region ?_
      refine WL.call rfl rfl rfl (enterS eg33 (args := []) rfl rfl rfl rfl) (c_alive11 _) ?_
      rintro e W1018 ⟨rfl, hB⟩
      replace hS := hS.ext hB
      refine ⟨_, rfl, ?_⟩
      refine WL.op (v := .bool true) rfl rfl rfl (Ex.assign rfl rfl) ?_
      refine WL.nil ?_
      refine then_normal ?_
      refine WP.ret ?_
      refine then_ret (?_)
      refine rt1 (v := .bool true) rfl rfl ?_
      exact ⟨rfl, hS.bw⟩
    ·
      have hg1017' : ¬ (40 < (lb.length : Int)) := by simpa using hg1017
      refine WL.on rfl rfl rfl (congrArg Value.bool hg1017) ?_
      refine WL.op (v := s3.v) rfl rfl rfl (Ex.move rfl rfl) ?_
      refine WL.on rfl rfl rfl (congrArg Value.bool hg1017) ?_
      have hl1019 : lc.length < 4611686018427387904 := (hS.mem (.tail _ (.tail _ (.head _))) : Sl _ _ _).lt
      refine WL.op (v := .int .i64 (lc.length : Int)) rfl rfl rfl (Ex.lenSl (l := lc) ⟨_, under22⟩ rfl rfl (hS.mem (.tail _ (.tail _ (.head _))))) ?_
      refine WL.on rfl rfl rfl (congrArg Value.bool hg1017) ?_
      refine WL.op (v := .bool (decide (40 < (lc.length : Int)))) rfl rfl rfl (Ex.gt rfl rfl rfl) ?_
      refine WL.op (v := .bool (decide (40 < (lc.length : Int)))) rfl rfl rfl (Ex.pickF rfl (congrArg Value.bool hg1017) rfl) ?_
      refine WL.nil ?_
      refine then_normal ?_
      refine WP.cond (b := decide (40 < (lc.length : Int))) rfl (fun hc1020 => ?_) (fun hc1020 => ?_)
      ·
        have hc1020' : 40 < (lc.length : Int) := by simpa using hc1020
        refine WP.seq ?_
        refine WP.region ?_
        refine WL.call rfl rfl rfl (enterS eg33 (args := []) rfl rfl rfl rfl) (c_alive11 _) ?_
        rintro e W1021 ⟨rfl, hB⟩
        replace hS := hS.ext hB
        refine ⟨_, rfl, ?_⟩
        refine WL.op (v := .bool true) rfl rfl rfl (Ex.assign rfl rfl) ?_
        refine WL.nil ?_
        refine then_normal ?_
        refine WP.ret ?_
        refine then_ret (?_)
        refine rt1 (v := .bool true) rfl rfl ?_
        exact ⟨rfl, hS.bw⟩
      ·
        have hc1020' : ¬ (40 < (lc.length : Int)) := by simpa using hc1020
        refine WP.skip ?_
        refine then_normal ?_
        refine WP.seq ?_
        refine WP.region ?_
        refine WL.op (v := s1.v) rfl rfl rfl (Ex.move rfl rfl) ?_
        refine WL.op (v := s2.v) rfl rfl rfl (Ex.move rfl rfl) ?_
        refine WL.call rfl rfl rfl (enterS eg16 (args := [s1.v, s2.v]) rfl rfl rfl rfl) (c_join _ _ la lb _ (hS.mem (.head _)) (hS.mem (.tail _ (.head _))) (by first | omega | (simp; done) | (simp; omega))) ?_
        rintro e W1024 ⟨v1022, rfl, hB, hv', hn'⟩
        have hN1023 : New w v1022 := fun b hb => Nat.le_trans hS.bw.size (hn' b hb)
        replace hS := hS.newPin hB (pinSl v1022 (normAt (la ++ lb))) hv' hn'
        refine ⟨_, rfl, ?_⟩
        have hq1025 := normAt_len2 la lb
        refine WL.op (v := s1.v) rfl rfl rfl (Ex.move rfl rfl) ?_
        refine WL.op (v := s2.v) rfl rfl rfl (Ex.move rfl rfl) ?_
        refine WL.call rfl rfl rfl (enterS eg34 (args := [s1.v, s2.v]) rfl rfl rfl rfl) (c_diff _ _ la lb _ (hS.mem (.tail _ (.head _))) (hS.mem (.tail _ (.tail _ (.head _)))) (by first | omega | (simp; done) | (simp; omega)) (by first | omega | (simp; done) | (simp; omega))) ?_
        rintro e W1028 ⟨v1026, rfl, hB, hv', hn'⟩
        have hN1027 : New w v1026 := fun b hb => Nat.le_trans hS.bw.size (hn' b hb)
        replace hS := hS.newPin hB (pinSl v1026 (diffAt la lb)) hv' hn'
        refine ⟨_, rfl, ?_⟩
        have hq1029 := diff_length la lb
        refine WL.op (v := v1022) rfl rfl rfl (Ex.assign rfl rfl) ?_
        refine WL.op (v := v1026) rfl rfl rfl (Ex.assign rfl rfl) ?_
        refine WL.nil ?_
        refine then_normal ?_
        refine WP.seq ?_
        refine WP.seq ?_
        refine WP.region ?_
        refine WL.op (v := v1026) rfl rfl rfl (Ex.move rfl rfl) ?_
        refine WL.op (v := s2.v) rfl rfl rfl (Ex.move rfl rfl) ?_
        refine WL.call rfl rfl rfl (enterS eg16 (args := [v1026, s2.v]) rfl rfl rfl rfl) (c_join _ _ (diffAt la lb) lb _ (hS.mem (.head _)) (hS.mem (.tail _ (.tail _ (.tail _ (.head _))))) (by first | omega | (simp; done) | (simp; omega))) ?_
        rintro e W1032 ⟨v1030, rfl, hB, hv', hn'⟩
        have hN1031 : New w v1030 := fun b hb => Nat.le_trans hS.bw.size (hn' b hb)
        replace hS := hS.newPin hB (pinSl v1030 (normAt (diffAt la lb ++ lb))) hv' hn'
        refine ⟨_, rfl, ?_⟩
        have hq1033 := normAt_len2 (diffAt la lb) lb
        refine WL.op (v := v1022) rfl rfl rfl (Ex.move rfl rfl) ?_
        refine WL.call rfl rfl rfl (enterS eg15 (args := [v1030, v1022]) rfl rfl rfl rfl) (c_rows _ _ (normAt (diffAt la lb ++ lb)) (normAt (la ++ lb)) _ (hS.mem (.head _)) (hS.mem (.tail _ (.tail _ (.head _))))) ?_
        rintro e W1034 ⟨rfl, hB⟩
        replace hS := hS.ext hB
        refine ⟨_, rfl, ?_⟩
        have ht1035 : (decide (normAt (diffAt la lb ++ lb) = normAt (la ++ lb))) = true := decide_eq_true (dl1 la lb)
        refine WL.op (v := .bool (!(decide (normAt (diffAt la lb ++ lb) = normAt (la ++ lb))))) rfl rfl rfl (Ex.not rfl rfl) ?_
        refine WL.op (v := .bool (!(decide (normAt (diffAt la lb ++ lb) = normAt (la ++ lb))))) rfl rfl rfl (Ex.move rfl rfl) ?_
        refine WL.on rfl rfl rfl (congrArg (fun b => Value.bool (!b)) ht1035) ?_
        refine WL.op (v := v1026) rfl rfl rfl (Ex.move rfl rfl) ?_
        refine WL.on rfl rfl rfl (congrArg (fun b => Value.bool (!b)) ht1035) ?_
        refine WL.op (v := s1.v) rfl rfl rfl (Ex.move rfl rfl) ?_
        refine WL.on rfl rfl rfl (congrArg (fun b => Value.bool (!b)) ht1035) ?_
        refine WL.call rfl rfl rfl (enterS eg20 (args := [v1026, s1.v]) rfl rfl rfl rfl) (c_leq _ _ (diffAt la lb) la _ (hS.mem (.tail _ (.head _))) (hS.mem (.tail _ (.tail _ (.tail _ (.head _))))) (by first | omega | (simp; done) | (simp; omega)) (by first | omega | (simp; done) | (simp; omega))) ?_
        rintro e W1036 ⟨rfl, hB⟩
        replace hS := hS.ext hB
        refine ⟨_, rfl, ?_⟩
        have ht1037 : (leqAt (diffAt la lb) la) = true := dl2 la lb
        refine WL.on rfl rfl rfl (congrArg (fun b => Value.bool (!b)) ht1035) ?_
        refine WL.op (v := .bool (!(leqAt (diffAt la lb) la))) rfl rfl rfl (Ex.not rfl rfl) ?_
        refine WL.op (v := .bool (!(leqAt (diffAt la lb) la))) rfl rfl rfl (Ex.pickF rfl (congrArg (fun b => Value.bool (!b)) ht1035) rfl) ?_
        refine WL.op (v := .bool (!(leqAt (diffAt la lb) la))) rfl rfl rfl (Ex.move rfl rfl) ?_
        refine WL.on rfl rfl rfl (congrArg (fun b => Value.bool (!b)) ht1037) ?_
        refine WL.op (v := v1026) rfl rfl rfl (Ex.move rfl rfl) ?_
        refine WL.on rfl rfl rfl (congrArg (fun b => Value.bool (!b)) ht1037) ?_
        refine WL.op (v := v1022) rfl rfl rfl (Ex.move rfl rfl) ?_
        refine WL.on rfl rfl rfl (congrArg (fun b => Value.bool (!b)) ht1037) ?_
        refine WL.call rfl rfl rfl (enterS eg34 (args := [v1026, v1022]) rfl rfl rfl rfl) (c_diff _ _ (diffAt la lb) (normAt (la ++ lb)) _ (hS.mem (.tail _ (.head _))) (hS.mem (.tail _ (.tail _ (.head _)))) (by first | omega | (simp; done) | (simp; omega)) (by first | omega | (simp; done) | (simp; omega))) ?_
        rintro e W1040 ⟨v1038, rfl, hB, hv', hn'⟩
        have hN1039 : New w v1038 := fun b hb => Nat.le_trans hS.bw.size (hn' b hb)
        replace hS := hS.newPin hB (pinSl v1038 (diffAt (diffAt la lb) (normAt (la ++ lb)))) hv' hn'
        refine ⟨_, rfl, ?_⟩
        have hq1041 := diff_length (diffAt la lb) (normAt (la ++ lb))
        refine WL.on rfl rfl rfl (congrArg (fun b => Value.bool (!b)) ht1037) ?_
        have hl1042 : (diffAt (diffAt la lb) (normAt (la ++ lb))).length < 4611686018427387904 := (hS.mem (.head _) : Sl _ _ _).lt
        refine WL.op (v := .int .i64 (((diffAt (diffAt la lb) (normAt (la ++ lb))).length : Nat) : Int)) rfl rfl rfl (Ex.lenSl (l := diffAt (diffAt la lb) (normAt (la ++ lb))) ⟨_, under22⟩ rfl rfl (hS.mem (.head _))) ?_
        refine WL.on rfl rfl rfl (congrArg (fun b => Value.bool (!b)) ht1037) ?_
        refine WL.op (v := .bool (!decide ((((diffAt (diffAt la lb) (normAt (la ++ lb))).length : Nat) : Int) = 0))) rfl rfl rfl (Ex.ne rfl rfl rfl) ?_
        have ht1043 : (!decide ((((diffAt (diffAt la lb) (normAt (la ++ lb))).length : Nat) : Int) = 0)) = false := by rw [dl3]; rfl
        refine WL.op (v := .bool (!decide ((((diffAt (diffAt la lb) (normAt (la ++ lb))).length : Nat) : Int) = 0))) rfl rfl rfl (Ex.pickF rfl (congrArg (fun b => Value.bool (!b)) ht1037) rfl) ?_
        refine WL.nil ?_
        refine then_normal ?_
        refine WP.condF (congrArg Value.bool ht1043) ?_
        refine WP.skip ?_
        refine then_normal ?_
        refine WP.cut (fun a W => ∃ (l0 : Fr), a = fr 103 [] ([(0, s1.v), (1, s2.v), (2, s3.v)] ++ l0) ∧ St w ([]) (pinSl v1038 (diffAt (diffAt la lb) (normAt (la ++ lb))) :: pinSl v1030 (normAt (diffAt la lb ++ lb)) :: pinSl v1026 (diffAt la lb) :: pinSl v1022 (normAt (la ++ lb)) :: pinSl s1.v la :: pinSl s2.v lb :: pinSl s3.v lc :: []) W) ?_ ?_
        ·
          refine WP.seq ?_
          refine WP.region ?_
          refine WL.op (v := s3.v) rfl rfl rfl (Ex.move rfl rfl) ?_
          refine WL.op (v := s2.v) rfl rfl rfl (Ex.move rfl rfl) ?_
          refine WL.call rfl rfl rfl (enterS eg16 (args := [s3.v, s2.v]) rfl rfl rfl rfl) (c_join _ _ lc lb _ (hS.mem (.tail _ (.tail _ (.tail _ (.tail _ (.tail _ (.tail _ (.head _)))))))) (hS.mem (.tail _ (.tail _ (.tail _ (.tail _ (.tail _ (.head _))))))) (by first | omega | (simp; done) | (simp; omega))) ?_
          rintro e W1046 ⟨v1044, rfl, hB, hv', hn'⟩
          have hN1045 : New w v1044 := fun b hb => Nat.le_trans hS.bw.size (hn' b hb)
          replace hS := hS.newPin hB (pinSl v1044 (normAt (lc ++ lb))) hv' hn'
          refine ⟨_, rfl, ?_⟩
          have hq1047 := normAt_len2 lc lb
          refine WL.op (v := v1022) rfl rfl rfl (Ex.move rfl rfl) ?_
          refine WL.call rfl rfl rfl (enterS eg15 (args := [v1044, v1022]) rfl rfl rfl rfl) (c_rows _ _ (normAt (lc ++ lb)) (normAt (la ++ lb)) _ (hS.mem (.head _)) (hS.mem (.tail _ (.tail _ (.tail _ (.tail _ (.head _))))))) ?_
          rintro e W1048 ⟨rfl, hB⟩
          replace hS := hS.ext hB
          refine ⟨_, rfl, ?_⟩
          refine WL.op (v := .bool (decide (normAt (lc ++ lb) = normAt (la ++ lb)))) rfl rfl rfl (Ex.move rfl rfl) ?_
          rcases Bool.eq_false_or_eq_true (decide (normAt (lc ++ lb) = normAt (la ++ lb))) with hg1050 | hg1050
          ·
            have hg1050' : normAt (lc ++ lb) = normAt (la ++ lb) := by simpa using hg1050
            refine WL.on rfl rfl rfl (congrArg Value.bool hg1050) ?_
            refine WL.op (v := v1026) rfl rfl rfl (Ex.move rfl rfl) ?_
            refine WL.on rfl rfl rfl (congrArg Value.bool hg1050) ?_
            refine WL.op (v := s3.v) rfl rfl rfl (Ex.move rfl rfl) ?_
            refine WL.on rfl rfl rfl (congrArg Value.bool hg1050) ?_
            refine WL.call rfl rfl rfl (enterS eg20 (args := [v1026, s3.v]) rfl rfl rfl rfl) (c_leq _ _ (diffAt la lb) lc _ (hS.mem (.tail _ (.tail _ (.tail _ (.head _))))) (hS.mem (.tail _ (.tail _ (.tail _ (.tail _ (.tail _ (.tail _ (.tail _ (.head _))))))))) (by first | omega | (simp; done) | (simp; omega)) (by first | omega | (simp; done) | (simp; omega))) ?_
            rintro e W1051 ⟨rfl, hB⟩
            replace hS := hS.ext hB
            refine ⟨_, rfl, ?_⟩
            have ht1052 : (leqAt (diffAt la lb) lc) = true := dl4 la lb lc (of_decide_eq_true hg1050)
            refine WL.on rfl rfl rfl (congrArg Value.bool hg1050) ?_
            refine WL.op (v := .bool (!(leqAt (diffAt la lb) lc))) rfl rfl rfl (Ex.not rfl rfl) ?_
            refine WL.op (v := .bool (!(leqAt (diffAt la lb) lc))) rfl rfl rfl (Ex.pickT rfl (congrArg Value.bool hg1050) rfl) ?_
            refine WL.nil ?_
            refine then_normal ?_
            refine WP.condF (congrArg (fun b => Value.bool (!b)) ht1052) ?_
            refine WP.skip ?_
            refine then_normal ?_
            exact ⟨_, fr_keep ⟨rfl, rfl, rfl, trivial⟩, hS.drop 0 1⟩
          ·
            have hg1050' : ¬ (normAt (lc ++ lb) = normAt (la ++ lb)) := by simpa using hg1050
            refine WL.off (b' := false) rfl rfl rfl rfl rfl rfl (congrArg Value.bool hg1050) rfl ?_
            refine WL.off (b' := false) rfl rfl rfl rfl rfl rfl (congrArg Value.bool hg1050) rfl ?_
            refine WL.off (b' := false) rfl rfl rfl rfl rfl rfl (congrArg Value.bool hg1050) rfl ?_
            refine WL.off (b' := false) rfl rfl rfl rfl rfl rfl (congrArg Value.bool hg1050) rfl ?_
            refine WL.op (v := .bool false) rfl rfl rfl (Ex.pickF rfl (congrArg Value.bool hg1050) rfl) ?_
            refine WL.nil ?_
            refine then_normal ?_
            refine WP.condF rfl ?_
            refine WP.skip ?_
            refine then_normal ?_
            exact ⟨_, fr_keep ⟨rfl, rfl, rfl, trivial⟩, hS.drop 0 1⟩
        ·
          rintro a W1053 ⟨l0, rfl, hS⟩
          refine WP.seq ?_
          refine WP.region ?_
          refine WL.op (v := s1.v) rfl rfl rfl (Ex.move rfl rfl) ?_
          refine WL.op (v := s2.v) rfl rfl rfl (Ex.move rfl rfl) ?_
          refine WL.op (v := s3.v) rfl rfl rfl (Ex.move rfl rfl) ?_
          refine WL.buildSlice (ps := [(0, s1.v), (1, s2.v), (2, s3.v)]) (C := #[s1.v, s2.v, s3.v]) (E := 22) rfl (fun _ => by kernel_rfl) hS rfl rfl rfl rfl (fun b1054 W1055 hS => ?_)
          have hO1056 : OutG (α := Sv) (.slice (some ⟨b1054, 0, none⟩) 3 3) (some (b1054, .cells #[s1.v, s2.v, s3.v] 22)) 22 [s1, s2, s3] := .inr ⟨b1054, 3, #[s1.v, s2.v, s3.v], rfl, rfl, Nat.le_refl _, by decide, rfl, rfl⟩
          refine WL.op (v := .slice (some ⟨b1054, 0, none⟩) 3 3) rfl rfl rfl (Ex.assign rfl rfl) ?_
          refine WL.nil ?_
          refine then_normal ?_
          refine WP.seq ?_
          refine WP.region ?_
          refine WL.op (v := .slice (some ⟨b1054, 0, none⟩) 3 3) rfl rfl rfl (Ex.move rfl rfl) ?_
          have hsl1057 : Sl W1055 (.slice (some ⟨b1054, 0, none⟩) 3 3) ([s1, s2, s3]) := (OutG.slM hO1056 hS (fun p hp => by first | (rw [hp]; simp; done) | (cases hp; simp)) (by first | omega | (simp; done) | (simp; omega))).1
          replace hS := (((hS.pinSSnil).ssSnoc (s := s1) (li := la) (.head _) (.tail _ (.tail _ (.tail _ (.tail _ (.tail _ (.head _)))))) rfl).ssSnoc (s := s2) (li := lb) (.head _) (.tail _ (.tail _ (.tail _ (.tail _ (.tail _ (.tail _ (.tail _ (.head _)))))))) rfl).ssSnoc (s := s3) (li := lc) (.head _) (.tail _ (.tail _ (.tail _ (.tail _ (.tail _ (.tail _ (.tail _ (.tail _ (.tail _ (.head _)))))))))) rfl
          refine WL.call rfl rfl rfl (enterS eg35 (args := [.slice (some ⟨b1054, 0, none⟩) 3 3]) rfl rfl rfl rfl) (c_needless _ ([s1, s2, s3]) ([la, lb, lc]) _ hsl1057 (hS.mem (.head _)) rfl (hO1056.capd) (by simp) (by simp; omega)) ?_
          rintro e W1060 ⟨v1058, rfl, hB, hv', hn1059⟩
          replace hsl1057 := hsl1057.bw hB
          replace hS := hS.newPin hB (pinSl v1058 (needF ([la, lb, lc]) ([la, lb, lc]).length).1) hv' hn1059
          refine ⟨_, rfl, ?_⟩
          refine WL.op (v := v1058) rfl rfl rfl (Ex.assign rfl rfl) ?_
          refine WL.nil ?_
          refine then_normal ?_
          refine WP.seq ?_
          refine WP.seq ?_
          refine WP.region ?_
          refine WL.op (v := .int .i64 0) rfl rfl rfl (Ex.assign rfl rfl) ?_
          refine WL.nil ?_
          refine then_normal ?_
          refine WP.block ?_
          replace hS := hS.again (.tail _ (.head _))
          refine WP.loop (fun (μ : Nat) a W => ∃ (k : Nat), ∃ (el : Option (Nat × Obj)), ∃ (dl : List Sv), ∃ (lss : List (List At)), ∃ (l0 : Fr), a = fr 103 [] ([(0, s1.v), (1, s2.v), (2, s3.v), (9, .slice (some ⟨b1054, 0, none⟩) 3 3), (10, v1058), (11, .int .i64 (k : Int))] ++ l0) ∧ μ = (needF ([la, lb, lc]) ([la, lb, lc]).length).1.length - k ∧ k ≤ (needF ([la, lb, lc]) ([la, lb, lc]).length).1.length ∧ St w (el.toList) (pinSS dl lss :: pinSl v1058 ((needF ([la, lb, lc]) ([la, lb, lc]).length).1) :: pinSS [s1, s2, s3] [la, lb, lc] :: pinSS (([] ++ [s1]) ++ [s2]) (([] ++ [la]) ++ [lb]) :: pinSS ([] ++ [s1]) ([] ++ [la]) :: pinSS [] [] :: pinSl v1038 (diffAt (diffAt la lb) (normAt (la ++ lb))) :: pinSl v1030 (normAt (diffAt la lb ++ lb)) :: pinSl v1026 (diffAt la lb) :: pinSl v1022 (normAt (la ++ lb)) :: pinSl s1.v la :: pinSl s2.v lb :: pinSl s3.v lc :: []) W ∧ (OutG (.slice (some ⟨b1054, 0, none⟩) 3 3) el 22 dl) ∧ (lss = setsAt [la, lb, lc] ((needF ([la, lb, lc]) ([la, lb, lc]).length).1.take k)) ∧ (dl.length = lss.length) ∧ (dl.length = 3) ∧ (lss.flatten.length ≤ 1048576)) id _ ⟨0, (some (b1054, .cells #[s1.v, s2.v, s3.v] 22)), [s1, s2, s3], [la, lb, lc], _, fr_keep ⟨rfl, rfl, rfl, rfl, rfl, rfl, trivial⟩, rfl, by omega, hS, hO1056, rfl, rfl, rfl, (by simp; omega)⟩ ?_
          rintro μ a W1061 ⟨k, el, dl, lss, l0, rfl, rfl, hk, hS, hOl, hst, hlen2, hdl, hl3⟩
          refine WP.seq ?_
          refine WP.seq ?_
          refine WP.region ?_
          refine WL.op (v := .int .i64 (k : Int)) rfl rfl rfl (Ex.move rfl rfl) ?_
          refine WL.op (v := v1058) rfl rfl rfl (Ex.move rfl rfl) ?_
          have hl1062 : ((needF ([la, lb, lc]) ([la, lb, lc]).length).1).length < 4611686018427387904 := (hS.mem (.tail _ (.head _)) : Sl _ _ _).lt
          refine WL.op (v := .int .i64 ((((needF ([la, lb, lc]) ([la, lb, lc]).length).1).length : Nat) : Int)) rfl rfl rfl (Ex.lenSl (l := (needF ([la, lb, lc]) ([la, lb, lc]).length).1) ⟨_, under43⟩ rfl rfl (hS.mem (.tail _ (.head _)))) ?_
          refine WL.op (v := .bool (decide ((k : Int) < ((((needF ([la, lb, lc]) ([la, lb, lc]).length).1).length : Nat) : Int)))) rfl rfl rfl (Ex.lt rfl rfl rfl) ?_
          refine WL.nil ?_
          refine then_normal ?_
          refine WP.cond (b := decide ((k : Int) < ((((needF ([la, lb, lc]) ([la, lb, lc]).length).1).length : Nat) : Int))) rfl (fun hc1063 => ?_) (fun hc1063 => ?_)
          ·
            have hc1063' : (k : Int) < ((((needF ([la, lb, lc]) ([la, lb, lc]).length).1).length : Nat) : Int) := by simpa using hc1063
            refine WP.skip ?_
            refine then_normal ?_
            refine WP.seq ?_
            refine WP.block ?_
            refine WP.seq ?_
            refine WP.seq ?_
            refine WP.region ?_
            refine WL.op (v := v1058) rfl rfl rfl (Ex.move rfl rfl) ?_
            refine WL.op (v := .int .i64 (k : Int)) rfl rfl rfl (Ex.move rfl rfl) ?_
            obtain ⟨b1064, po1065, x1066, hx1067, hi1068, hS⟩ := hS.elem (α := Int) (k := k) (.tail _ (.head _)) under43 tySz3 (by omega)
            refine WL.op (v := .pointer (some ⟨b1064, po1065, none⟩)) rfl rfl rfl (Ex.indexC hi1068 rfl rfl rfl) ?_
            refine WL.op (v := .int .i64 x1066) rfl rfl rfl (Ex.load1 tyOne3 rfl rfl (Reads.sub (cs := [.int .i64 x1066]) (hS.get 0 rfl) 0 (ds := [.int .i64 x1066]) rfl)) ?_
            refine WL.op (v := .bool (decide (x1066 < 0))) rfl rfl rfl (Ex.lt rfl rfl rfl) ?_
            refine WL.op (v := .bool (decide (x1066 < 0))) rfl rfl rfl (Ex.move rfl rfl) ?_
            rcases Bool.eq_false_or_eq_true (decide (x1066 < 0)) with hg1069 | hg1069
            ·
              have hg1069' : x1066 < 0 := by simpa using hg1069
              refine WL.off (b' := true) rfl rfl rfl rfl rfl rfl (congrArg Value.bool hg1069) rfl ?_
              refine WL.off (b' := true) rfl rfl rfl rfl rfl rfl (congrArg Value.bool hg1069) rfl ?_
              refine WL.off (b' := true) rfl rfl rfl rfl rfl rfl (congrArg Value.bool hg1069) rfl ?_
              refine WL.off (b' := true) rfl rfl rfl rfl rfl rfl (congrArg Value.bool hg1069) rfl ?_
              refine WL.off (b' := true) rfl rfl rfl rfl rfl rfl (congrArg Value.bool hg1069) rfl ?_
              refine WL.op (v := .bool true) rfl rfl rfl (Ex.pickT rfl (congrArg Value.bool hg1069) rfl) ?_
              refine WL.nil ?_
              refine then_normal ?_
              refine WP.condT rfl ?_
              refine WP.seq ?_
              refine WP.region ?_
              refine WL.op (v := .bool false) rfl rfl rfl (Ex.assign rfl rfl) ?_
              refine WL.nil ?_
              refine then_normal ?_
              refine WP.ret ?_
              refine then_ret (inBlock_ret (then_ret (then_ret (inBlock_ret (then_ret (?_))))))
              refine rt1 (v := .bool false) rfl rfl ?_
              obtain ⟨n1, hn1, hxn1⟩ := (needF_idx [la, lb, lc] _).2 x1066 (List.mem_of_getElem? hx1067)
              have hn4 : n1 < 3 := hn1
              exfalso; omega
            ·
              have hg1069' : ¬ (x1066 < 0) := by simpa using hg1069
              refine WL.on rfl rfl rfl (congrArg Value.bool hg1069) ?_
              refine WL.op (v := v1058) rfl rfl rfl (Ex.move rfl rfl) ?_
              refine WL.on rfl rfl rfl (congrArg Value.bool hg1069) ?_
              refine WL.op (v := .int .i64 (k : Int)) rfl rfl rfl (Ex.move rfl rfl) ?_
              refine WL.on rfl rfl rfl (congrArg Value.bool hg1069) ?_
              refine WL.op (v := .pointer (some ⟨b1064, po1065, none⟩)) rfl rfl rfl (Ex.indexC hi1068 rfl rfl rfl) ?_
              refine WL.on rfl rfl rfl (congrArg Value.bool hg1069) ?_
              refine WL.op (v := .int .i64 x1066) rfl rfl rfl (Ex.load1 tyOne3 rfl rfl (Reads.sub (cs := [.int .i64 x1066]) (hS.get 0 rfl) 0 (ds := [.int .i64 x1066]) rfl)) ?_
              refine WL.on rfl rfl rfl (congrArg Value.bool hg1069) ?_
              refine WL.op (v := .bool (decide (2 < x1066))) rfl rfl rfl (Ex.gt rfl rfl rfl) ?_
              obtain ⟨n0, hn0, hxn⟩ := (needF_idx [la, lb, lc] _).2 x1066 (List.mem_of_getElem? hx1067)
              have hn3 : n0 < 3 := hn0
              have hxe : ((x1066.toNat : Nat) : Int) = x1066 := by omega
              refine WL.op (v := .bool (decide (2 < x1066))) rfl rfl rfl (Ex.pickF rfl (congrArg Value.bool hg1069) rfl) ?_
              refine WL.nil ?_
              refine then_normal ?_
              refine WP.cond (b := decide (2 < x1066)) rfl (fun hc1070 => ?_) (fun hc1070 => ?_)
              ·
                have hc1070' : 2 < x1066 := by simpa using hc1070
                refine WP.seq ?_
                refine WP.region ?_
                refine WL.op (v := .bool false) rfl rfl rfl (Ex.assign rfl rfl) ?_
                refine WL.nil ?_
                refine then_normal ?_
                refine WP.ret ?_
                refine then_ret (inBlock_ret (then_ret (then_ret (inBlock_ret (then_ret (?_))))))
                refine rt1 (v := .bool false) rfl rfl ?_
                obtain ⟨n1, hn1, hxn1⟩ := (needF_idx [la, lb, lc] _).2 x1066 (List.mem_of_getElem? hx1067)
                have hn4 : n1 < 3 := hn1
                exfalso; omega
              ·
                have hc1070' : ¬ (2 < x1066) := by simpa using hc1070
                refine WP.skip ?_
                refine then_normal ?_
                refine WP.region ?_
                refine WL.op (v := .slice (some ⟨b1054, 0, none⟩) 3 3) rfl rfl rfl (Ex.move rfl rfl) ?_
                refine WL.op (v := v1058) rfl rfl rfl (Ex.move rfl rfl) ?_
                refine WL.op (v := .int .i64 (k : Int)) rfl rfl rfl (Ex.move rfl rfl) ?_
                refine WL.op (v := .pointer (some ⟨b1064, po1065, none⟩)) rfl rfl rfl (Ex.indexC hi1068 rfl rfl rfl) ?_
                refine WL.op (v := .int .i64 x1066) rfl rfl rfl (Ex.load1 tyOne3 rfl rfl (Reads.sub (cs := [.int .i64 x1066]) (hS.get 0 rfl) 0 (ds := [.int .i64 x1066]) rfl)) ?_
                obtain ⟨g1071, og1072, rfl, hi1073⟩ := OutG.spot (i := x1066.toNat) hOl under42 tySz22 (by omega)
                rw [hxe] at hi1073
                refine WL.op (v := .pointer (some ⟨g1071, x1066.toNat * Enc.sz Sv, none⟩)) rfl rfl rfl (Ex.indexC hi1073 rfl rfl rfl) ?_
                refine WL.storeOut (α := Sv) (a := (Sv.mk none 0 0)) (i := x1066.toNat) hOl tySz22 (by omega) [] hS rfl rfl rfl rfl rfl (fun og1076 W1075 hO1077 hS => ?_)
                refine WL.nil ?_
                refine inBlock_normal ?_
                refine then_normal ?_
                refine WP.region ?_
                refine WL.op (v := .int .i64 (k : Int)) rfl rfl rfl (Ex.move rfl rfl) ?_
                refine WL.op (v := .int .i64 ((k + 1 : Nat) : Int)) rfl rfl rfl (Ex.add rfl rfl rfl (wrap_succ (by omega))) ?_
                refine WL.op (v := .int .i64 ((k + 1 : Nat) : Int)) rfl rfl rfl (Ex.assign rfl rfl) ?_
                refine WL.nil ?_
                refine then_normal ?_
                replace hS := hS.ssSet (.tail _ (.head _)) x1066.toNat
                exact ⟨_, ⟨k + 1, (some (g1071, og1076)), dl.set x1066.toNat (Sv.mk none 0 0), lss.set x1066.toNat [], _, fr_keep ⟨rfl, rfl, rfl, rfl, rfl, rfl, trivial⟩, rfl, by omega, (hS.repin 0 ⟨(.head _), (.tail _ (.tail _ (.tail _ (.head _)))), (.tail _ (.tail _ (.tail _ (.tail _ (.head _))))), (.tail _ (.tail _ (.tail _ (.tail _ (.tail _ (.head _)))))), (.tail _ (.tail _ (.tail _ (.tail _ (.tail _ (.tail _ (.head _))))))), (.tail _ (.tail _ (.tail _ (.tail _ (.tail _ (.tail _ (.tail _ (.head _)))))))), (.tail _ (.tail _ (.tail _ (.tail _ (.tail _ (.tail _ (.tail _ (.tail _ (.head _))))))))), (.tail _ (.tail _ (.tail _ (.tail _ (.tail _ (.tail _ (.tail _ (.tail _ (.tail _ (.head _)))))))))), (.tail _ (.tail _ (.tail _ (.tail _ (.tail _ (.tail _ (.tail _ (.tail _ (.tail _ (.tail _ (.head _))))))))))), (.tail _ (.tail _ (.tail _ (.tail _ (.tail _ (.tail _ (.tail _ (.tail _ (.tail _ (.tail _ (.tail _ (.head _)))))))))))), (.tail _ (.tail _ (.tail _ (.tail _ (.tail _ (.tail _ (.tail _ (.tail _ (.tail _ (.tail _ (.tail _ (.tail _ (.head _))))))))))))), (.tail _ (.tail _ (.tail _ (.tail _ (.tail _ (.tail _ (.tail _ (.tail _ (.tail _ (.tail _ (.tail _ (.tail _ (.tail _ (.head _)))))))))))))), (.tail _ (.tail _ (.tail _ (.tail _ (.tail _ (.tail _ (.tail _ (.tail _ (.tail _ (.tail _ (.tail _ (.tail _ (.tail _ (.tail _ (.head _))))))))))))))), trivial⟩), hO1077, (by rw [take_snoc? hx1067, setsAt_snoc, hst]), (by simp [hlen2]), (by simp [hdl]), (Nat.le_trans (flatten_set_le _ _) hl3)⟩, by simp only [id]; omega⟩
          ·
            have hc1063' : ¬ ((k : Int) < ((((needF ([la, lb, lc]) ([la, lb, lc]).length).1).length : Nat) : Int)) := by simpa using hc1063
            refine WP.exit ?_
            refine then_exit (then_exit (inBlock_same (?_)))
            refine then_normal ?_
            refine WP.seq ?_
            refine WP.region ?_
            refine WL.op (v := .slice (some ⟨b1054, 0, none⟩) 3 3) rfl rfl rfl (Ex.move rfl rfl) ?_
            have hsl1079 : Sl W1061 (.slice (some ⟨b1054, 0, none⟩) 3 3) dl := (OutG.slM hOl hS (fun p hp => by first | (rw [hp]; simp; done) | (cases hp; simp)) (by first | omega | (simp; done) | (simp; omega))).1
            refine WL.call rfl rfl rfl (enterS eg36 (args := [.slice (some ⟨b1054, 0, none⟩) 3 3]) rfl rfl rfl rfl) (c_all _ dl lss _ hsl1079 (hS.mem (.head _)) hlen2 hl3) ?_
            rintro e W1081 ⟨v1078, rfl, hB, hv', hn'⟩
            have hN1080 : New w v1078 := fun b hb => Nat.le_trans hS.bw.size (hn' b hb)
            replace hsl1079 := hsl1079.bw hB
            replace hS := hS.newPin hB (pinSl v1078 (normAt lss.flatten)) hv' hn'
            refine ⟨_, rfl, ?_⟩
            have hq1082 := Nat.le_trans (normAt_length lss.flatten) (hl3)
            refine WL.op (v := s1.v) rfl rfl rfl (Ex.move rfl rfl) ?_
            refine WL.op (v := s2.v) rfl rfl rfl (Ex.move rfl rfl) ?_
            refine WL.op (v := s3.v) rfl rfl rfl (Ex.move rfl rfl) ?_
            refine WL.buildSlice (ps := [(0, s1.v), (1, s2.v), (2, s3.v)]) (C := #[s1.v, s2.v, s3.v]) (E := 22) rfl (fun _ => by kernel_rfl) hS rfl rfl rfl rfl (fun b1083 W1084 hS => ?_)
            replace hS := hS.slice (xs := [s1, s2, s3]) (cap := 3) rfl (by simp)
            refine WL.call rfl rfl rfl (enterS eg36 (args := [.slice (some ⟨b1083, 0, none⟩) 3 3]) rfl rfl rfl rfl) (c_all _ [s1, s2, s3] [la, lb, lc] _ (hS.mem (.head _)) (SS.cons (hS.mem (.tail _ (.tail _ (.tail _ (.tail _ (.tail _ (.tail _ (.tail _ (.tail _ (.tail _ (.tail _ (.tail _ (.tail _ (.head _)))))))))))))) (SS.cons (hS.mem (.tail _ (.tail _ (.tail _ (.tail _ (.tail _ (.tail _ (.tail _ (.tail _ (.tail _ (.tail _ (.tail _ (.tail _ (.tail _ (.head _))))))))))))))) (SS.cons (hS.mem (.tail _ (.tail _ (.tail _ (.tail _ (.tail _ (.tail _ (.tail _ (.tail _ (.tail _ (.tail _ (.tail _ (.tail _ (.tail _ (.tail _ (.head _)))))))))))))))) (SS.nil)))) rfl (by simp; omega)) ?_
            rintro e W1087 ⟨v1085, rfl, hB, hv', hn'⟩
            have hN1086 : New w v1085 := fun b hb => Nat.le_trans hS.bw.size (hn' b hb)
            replace hS := hS.newPin hB (pinSl v1085 (normAt [la, lb, lc].flatten)) hv' hn'
            refine ⟨_, rfl, ?_⟩
            have hq1088 := normAt_length [la, lb, lc].flatten
            refine WL.call rfl rfl rfl (enterS eg15 (args := [v1078, v1085]) rfl rfl rfl rfl) (c_rows _ _ (normAt lss.flatten) (normAt [la, lb, lc].flatten) _ (hS.mem (.tail _ (.tail _ (.head _)))) (hS.mem (.head _))) ?_
            rintro e W1089 ⟨rfl, hB⟩
            replace hS := hS.ext hB
            refine ⟨_, rfl, ?_⟩
            have hfin : normAt lss.flatten = normAt [la, lb, lc].flatten := by rw [hst, show k = (needF ([la, lb, lc]) ([la, lb, lc]).length).1.length by omega, List.take_length, need_sets]; exact need_norm [la, lb, lc]
            have ht1090 : (decide (normAt lss.flatten = normAt [la, lb, lc].flatten)) = true := decide_eq_true hfin
            refine WL.op (v := .bool (decide (normAt lss.flatten = normAt [la, lb, lc].flatten))) rfl rfl rfl (Ex.move rfl rfl) ?_
            refine WL.on rfl rfl rfl (congrArg Value.bool ht1090) ?_
            refine WL.call rfl rfl rfl (enterS eg33 (args := []) rfl rfl rfl rfl) (c_alive11 _) ?_
            rintro e W1091 ⟨rfl, hB⟩
            replace hS := hS.ext hB
            refine ⟨_, rfl, ?_⟩
            refine WL.op (v := .bool true) rfl rfl rfl (Ex.pickT rfl (congrArg Value.bool ht1090) rfl) ?_
            refine WL.op (v := .bool true) rfl rfl rfl (Ex.assign rfl rfl) ?_
            refine WL.nil ?_
            refine then_normal ?_
            refine WP.ret ?_
            refine ?_
            refine rt1 (v := .bool true) rfl rfl ?_
            exact ⟨rfl, hS.bw⟩
theorem c_deltaLeast (v1 v2 v3 : Value) (la lb lc : List At) (w : World) (ha : Sl w v1 la) (hb : Sl w v2 lb) (hc : Sl w v3 lc) : Calls Try.prog 6 #[v1, v2, v3] w fun e w' => e = .returned (.bool true) ∧ Bw w w' := by
  obtain ⟨p1, c1, rfl⟩ := ha.len
  obtain ⟨p2, c2, rfl⟩ := hb.len
  obtain ⟨p3, c3, rfl⟩ := hc.len
  exact c_deltaLeast0 ⟨p1, _, c1⟩ ⟨p2, _, c2⟩ ⟨p3, _, c3⟩ la lb lc w ha hb hc
end Go.Proofs.Ythidakffgcjjiaa
