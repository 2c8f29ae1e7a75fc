/- The walks of the statements of layer 11: the probe, DeltaLeast. -/
import Derived.Test.YthidakffgcjjiaaDelta
namespace Go.Proofs.Ythidakffgcjjiaa
open Go.RowKit Go.Sort

theorem c_parts (v : Value) (l : List At) (w : World) (hv : Sl w v l) (hl : l.length ≤ 1048576) : Calls Try.prog 50 #[v] w fun e w' => ∃ v' rs, e = .returned v' ∧ Bw w w' ∧ RowsNew w w' v' ((normAt l).map (fun a => [a])) rs := by
  obtain ⟨p, cap, rfl⟩ := hv.len
  exact c_parts0 ⟨p, l.length, cap⟩ l w hv hl
set_option maxRecDepth 100000 in
set_option maxHeartbeats 1000000 in
theorem c_alive11 (w : World) :
    Calls Try.prog 33 #[] w fun e w' => e = .returned (.bool true) ∧ Bw w w' := by
  have hS := St.begin (w := w) (pins := []) trivial
  refine enter (n := 28) Try.func33 rfl rfl (Nat.le_of_ble_eq_true rfl) (l := []) rfl ?_
  refine WP.seq ?_
  refine WP.region ?_
  refine WL.op (v := .bool false) rfl rfl rfl (Ex.assign rfl rfl) ?_
  refine WL.nil ?_
  refine then_normal ?_
  refine WP.seq ?_
  refine WP.region ?_
  refine WL.op (v := .agg (Nm.mk (97 : UInt8) 0 0 0 0 0 0 0).enc) rfl rfl rfl (Ex.build (ps := [(0, .int .u8 97)]) rfl rfl (by kernel_rfl)) ?_
  refine WL.op (v := .agg (Ky.mk (2 : UInt8) (1 : UInt16) (Nm.mk (97 : UInt8) 0 0 0 0 0 0 0) 0 0).enc) rfl rfl rfl (Ex.build (ps := [(0, .int .u8 2), (1, .int .u16 1), (2, .agg (Nm.mk (97 : UInt8) 0 0 0 0 0 0 0).enc)]) rfl rfl (by kernel_rfl)) ?_
  refine WL.op (v := .agg (Vl.mk (3 : UInt64) Nm.zero).enc) rfl rfl rfl (Ex.build (ps := [(0, .int .u64 3)]) rfl rfl (by kernel_rfl)) ?_
  refine WL.op (v := .agg (At.mk (Ky.mk (2 : UInt8) (1 : UInt16) (Nm.mk (97 : UInt8) 0 0 0 0 0 0 0) 0 0) (Vl.mk (3 : UInt64) Nm.zero)).enc) rfl rfl rfl (Ex.build (ps := [(0, .agg (Ky.mk (2 : UInt8) (1 : UInt16) (Nm.mk (97 : UInt8) 0 0 0 0 0 0 0) 0 0).enc), (1, .agg (Vl.mk (3 : UInt64) Nm.zero).enc)]) rfl rfl (by kernel_rfl)) ?_
  refine WL.buildSlice (ps := [(0, .agg (At.mk (Ky.mk (2 : UInt8) (1 : UInt16) (Nm.mk (97 : UInt8) 0 0 0 0 0 0 0) 0 0) (Vl.mk (3 : UInt64) Nm.zero)).enc)]) (C := (At.mk (Ky.mk (2 : UInt8) (1 : UInt16) (Nm.mk (97 : UInt8) 0 0 0 0 0 0 0) 0 0) (Vl.mk (3 : UInt64) Nm.zero)).enc) (E := 71) rfl (fun _ => by kernel_rfl) hS rfl rfl rfl rfl (fun b932 W933 hS => ?_)
  have hNb932 : w.heap.size ≤ b932 := hS.ge 0 rfl
  replace hS := hS.slice (α := At) (xs := [At.mk (Ky.mk (2 : UInt8) (1 : UInt16) (Nm.mk (97 : UInt8) 0 0 0 0 0 0 0) 0 0) (Vl.mk (3 : UInt64) Nm.zero)]) (cap := 1) rfl (by simp)
  refine WL.op (v := .slice (some ⟨b932, 0, none⟩) 1 1) rfl rfl rfl (Ex.assign rfl rfl) ?_
  refine WL.nil ?_
  refine then_normal ?_
  refine WP.seq ?_
  refine WP.region ?_
  refine WL.op (v := .slice (some ⟨b932, 0, none⟩) 1 1) rfl rfl rfl (Ex.move rfl rfl) ?_
  refine WL.op (v := .slice (some ⟨b932, 0, none⟩) 1 1) rfl rfl rfl (Ex.move rfl rfl) ?_
  refine WL.call rfl rfl rfl (enterS eg34 (args := [.slice (some ⟨b932, 0, none⟩) 1 1, .slice (some ⟨b932, 0, none⟩) 1 1]) rfl rfl rfl rfl) (c_diff _ _ ([At.mk (Ky.mk (2 : UInt8) (1 : UInt16) (Nm.mk (97 : UInt8) 0 0 0 0 0 0 0) 0 0) (Vl.mk (3 : UInt64) Nm.zero)]) ([At.mk (Ky.mk (2 : UInt8) (1 : UInt16) (Nm.mk (97 : UInt8) 0 0 0 0 0 0 0) 0 0) (Vl.mk (3 : UInt64) Nm.zero)]) _ (hS.mem (.head _)) (hS.mem (.head _)) (by first | omega | (simp; done) | (simp; omega)) (by first | omega | (simp; done) | (simp; omega))) ?_
  rintro e W936 ⟨v934, rfl, hB, hv', hn'⟩
  have hN935 : New w v934 := fun b hb => Nat.le_trans hS.bw.size (hn' b hb)
  replace hS := hS.newPin hB (pinSl v934 (diffAt ([At.mk (Ky.mk (2 : UInt8) (1 : UInt16) (Nm.mk (97 : UInt8) 0 0 0 0 0 0 0) 0 0) (Vl.mk (3 : UInt64) Nm.zero)]) ([At.mk (Ky.mk (2 : UInt8) (1 : UInt16) (Nm.mk (97 : UInt8) 0 0 0 0 0 0 0) 0 0) (Vl.mk (3 : UInt64) Nm.zero)]))) hv' hn'
  refine ⟨_, rfl, ?_⟩
  have hq937 := diff_length ([At.mk (Ky.mk (2 : UInt8) (1 : UInt16) (Nm.mk (97 : UInt8) 0 0 0 0 0 0 0) 0 0) (Vl.mk (3 : UInt64) Nm.zero)]) ([At.mk (Ky.mk (2 : UInt8) (1 : UInt16) (Nm.mk (97 : UInt8) 0 0 0 0 0 0 0) 0 0) (Vl.mk (3 : UInt64) Nm.zero)])
  have hl938 : (diffAt ([At.mk (Ky.mk (2 : UInt8) (1 : UInt16) (Nm.mk (97 : UInt8) 0 0 0 0 0 0 0) 0 0) (Vl.mk (3 : UInt64) Nm.zero)]) ([At.mk (Ky.mk (2 : UInt8) (1 : UInt16) (Nm.mk (97 : UInt8) 0 0 0 0 0 0 0) 0 0) (Vl.mk (3 : UInt64) Nm.zero)])).length < 4611686018427387904 := (hS.mem (.head _) : Sl _ _ _).lt
  refine WL.op (v := .int .i64 (((diffAt ([At.mk (Ky.mk (2 : UInt8) (1 : UInt16) (Nm.mk (97 : UInt8) 0 0 0 0 0 0 0) 0 0) (Vl.mk (3 : UInt64) Nm.zero)]) ([At.mk (Ky.mk (2 : UInt8) (1 : UInt16) (Nm.mk (97 : UInt8) 0 0 0 0 0 0 0) 0 0) (Vl.mk (3 : UInt64) Nm.zero)])).length : Nat) : Int)) rfl rfl rfl (Ex.lenSl (l := diffAt ([At.mk (Ky.mk (2 : UInt8) (1 : UInt16) (Nm.mk (97 : UInt8) 0 0 0 0 0 0 0) 0 0) (Vl.mk (3 : UInt64) Nm.zero)]) ([At.mk (Ky.mk (2 : UInt8) (1 : UInt16) (Nm.mk (97 : UInt8) 0 0 0 0 0 0 0) 0 0) (Vl.mk (3 : UInt64) Nm.zero)])) ⟨_, under22⟩ rfl rfl (hS.mem (.head _))) ?_
  refine WL.op (v := .bool (decide ((((diffAt ([At.mk (Ky.mk (2 : UInt8) (1 : UInt16) (Nm.mk (97 : UInt8) 0 0 0 0 0 0 0) 0 0) (Vl.mk (3 : UInt64) Nm.zero)]) ([At.mk (Ky.mk (2 : UInt8) (1 : UInt16) (Nm.mk (97 : UInt8) 0 0 0 0 0 0 0) 0 0) (Vl.mk (3 : UInt64) Nm.zero)])).length : Nat) : Int) = 0))) rfl rfl rfl (Ex.eq rfl rfl rfl) ?_
  have ht939 : (decide ((((diffAt ([At.mk (Ky.mk (2 : UInt8) (1 : UInt16) (Nm.mk (97 : UInt8) 0 0 0 0 0 0 0) 0 0) (Vl.mk (3 : UInt64) Nm.zero)]) ([At.mk (Ky.mk (2 : UInt8) (1 : UInt16) (Nm.mk (97 : UInt8) 0 0 0 0 0 0 0) 0 0) (Vl.mk (3 : UInt64) Nm.zero)])).length : Nat) : Int) = 0)) = true := by kernel_rfl
  refine WL.op (v := .bool (decide ((((diffAt ([At.mk (Ky.mk (2 : UInt8) (1 : UInt16) (Nm.mk (97 : UInt8) 0 0 0 0 0 0 0) 0 0) (Vl.mk (3 : UInt64) Nm.zero)]) ([At.mk (Ky.mk (2 : UInt8) (1 : UInt16) (Nm.mk (97 : UInt8) 0 0 0 0 0 0 0) 0 0) (Vl.mk (3 : UInt64) Nm.zero)])).length : Nat) : Int) = 0))) rfl rfl rfl (Ex.move rfl rfl) ?_
  refine WL.on rfl rfl rfl (congrArg Value.bool ht939) ?_
  refine WL.op (v := .slice (some ⟨b932, 0, none⟩) 1 1) rfl rfl rfl (Ex.move rfl rfl) ?_
  refine WL.on rfl rfl rfl (congrArg Value.bool ht939) ?_
  refine WL.call rfl rfl rfl (enterS eg34 (args := [.slice (some ⟨b932, 0, none⟩) 1 1, .slice none 0 0]) rfl rfl rfl rfl) (c_diff _ _ ([At.mk (Ky.mk (2 : UInt8) (1 : UInt16) (Nm.mk (97 : UInt8) 0 0 0 0 0 0 0) 0 0) (Vl.mk (3 : UInt64) Nm.zero)]) ([] : List At) _ (hS.mem (.tail _ (.head _))) (Or.inl ⟨rfl, rfl⟩) (by first | omega | (simp; done) | (simp; omega)) (by first | omega | (simp; done) | (simp; omega))) ?_
  rintro e W942 ⟨v940, rfl, hB, hv', hn'⟩
  have hN941 : New w v940 := fun b hb => Nat.le_trans hS.bw.size (hn' b hb)
  replace hS := hS.newPin hB (pinSl v940 (diffAt ([At.mk (Ky.mk (2 : UInt8) (1 : UInt16) (Nm.mk (97 : UInt8) 0 0 0 0 0 0 0) 0 0) (Vl.mk (3 : UInt64) Nm.zero)]) ([] : List At))) hv' hn'
  refine ⟨_, rfl, ?_⟩
  have hq943 := diff_length ([At.mk (Ky.mk (2 : UInt8) (1 : UInt16) (Nm.mk (97 : UInt8) 0 0 0 0 0 0 0) 0 0) (Vl.mk (3 : UInt64) Nm.zero)]) ([] : List At)
  refine WL.on rfl rfl rfl (congrArg Value.bool ht939) ?_
  refine WL.op (v := .slice (some ⟨b932, 0, none⟩) 1 1) rfl rfl rfl (Ex.move rfl rfl) ?_
  refine WL.on rfl rfl rfl (congrArg Value.bool ht939) ?_
  refine WL.call rfl rfl rfl (enterS eg15 (args := [v940, .slice (some ⟨b932, 0, none⟩) 1 1]) rfl rfl rfl rfl) (c_rows _ _ (diffAt ([At.mk (Ky.mk (2 : UInt8) (1 : UInt16) (Nm.mk (97 : UInt8) 0 0 0 0 0 0 0) 0 0) (Vl.mk (3 : UInt64) Nm.zero)]) ([] : List At)) ([At.mk (Ky.mk (2 : UInt8) (1 : UInt16) (Nm.mk (97 : UInt8) 0 0 0 0 0 0 0) 0 0) (Vl.mk (3 : UInt64) Nm.zero)]) _ (hS.mem (.head _)) (hS.mem (.tail _ (.tail _ (.head _))))) ?_
  rintro e W944 ⟨rfl, hB⟩
  replace hS := hS.ext hB
  refine ⟨_, rfl, ?_⟩
  have ht945 : (decide (diffAt ([At.mk (Ky.mk (2 : UInt8) (1 : UInt16) (Nm.mk (97 : UInt8) 0 0 0 0 0 0 0) 0 0) (Vl.mk (3 : UInt64) Nm.zero)]) ([] : List At) = [At.mk (Ky.mk (2 : UInt8) (1 : UInt16) (Nm.mk (97 : UInt8) 0 0 0 0 0 0 0) 0 0) (Vl.mk (3 : UInt64) Nm.zero)])) = true := by kernel_rfl
  refine WL.op (v := .bool (decide (diffAt ([At.mk (Ky.mk (2 : UInt8) (1 : UInt16) (Nm.mk (97 : UInt8) 0 0 0 0 0 0 0) 0 0) (Vl.mk (3 : UInt64) Nm.zero)]) ([] : List At) = [At.mk (Ky.mk (2 : UInt8) (1 : UInt16) (Nm.mk (97 : UInt8) 0 0 0 0 0 0 0) 0 0) (Vl.mk (3 : UInt64) Nm.zero)]))) rfl rfl rfl (Ex.pickT rfl (congrArg Value.bool ht939) rfl) ?_
  refine WL.op (v := .bool (decide (diffAt ([At.mk (Ky.mk (2 : UInt8) (1 : UInt16) (Nm.mk (97 : UInt8) 0 0 0 0 0 0 0) 0 0) (Vl.mk (3 : UInt64) Nm.zero)]) ([] : List At) = [At.mk (Ky.mk (2 : UInt8) (1 : UInt16) (Nm.mk (97 : UInt8) 0 0 0 0 0 0 0) 0 0) (Vl.mk (3 : UInt64) Nm.zero)]))) rfl rfl rfl (Ex.move rfl rfl) ?_
  refine WL.on rfl rfl rfl (congrArg Value.bool ht945) ?_
  refine WL.op (v := .slice (some ⟨b932, 0, none⟩) 1 1) rfl rfl rfl (Ex.move rfl rfl) ?_
  refine WL.on rfl rfl rfl (congrArg Value.bool ht945) ?_
  refine WL.call rfl rfl rfl (enterS eg50 (args := [.slice (some ⟨b932, 0, none⟩) 1 1]) rfl rfl rfl rfl) (c_parts _ ([At.mk (Ky.mk (2 : UInt8) (1 : UInt16) (Nm.mk (97 : UInt8) 0 0 0 0 0 0 0) 0 0) (Vl.mk (3 : UInt64) Nm.zero)]) _ (hS.mem (.tail _ (.tail _ (.head _)))) (by first | omega | (simp; done) | (simp; omega))) ?_
  rintro e W949 ⟨v946, rs947, rfl, hB, hR948⟩
  have hPv946 : ((normAt ([At.mk (Ky.mk (2 : UInt8) (1 : UInt16) (Nm.mk (97 : UInt8) 0 0 0 0 0 0 0) 0 0) (Vl.mk (3 : UInt64) Nm.zero)])).map (fun a => [a])).flatten.length ≤ 1048576 := by rw [ones_flatten]; exact Nat.le_trans (normAt_length _) (by first | omega | (simp; done) | (simp; omega))
  have hQv946 : rs947.length ≤ 1048576 := by rw [hR948.len, List.length_map]; exact Nat.le_trans (normAt_length _) (by first | omega | (simp; done) | (simp; omega))
  have hrl950 := hR948.len
  replace hS := hS.newRows hB hR948
  refine ⟨_, rfl, ?_⟩
  refine WL.on rfl rfl rfl (congrArg Value.bool ht945) ?_
  have hl951 : rs947.length < 4611686018427387904 := (hS.mem (.tail _ (.head _)) : Sl _ _ _).lt
  refine WL.op (v := .int .i64 (rs947.length : Int)) rfl rfl rfl (Ex.lenSl (l := rs947) ⟨_, under42⟩ rfl rfl (hS.mem (.tail _ (.head _)))) ?_
  refine WL.on rfl rfl rfl (congrArg Value.bool ht945) ?_
  refine WL.op (v := .bool (decide ((rs947.length : Int) = 1))) rfl rfl rfl (Ex.eq rfl rfl rfl) ?_
  have ht952 : (decide ((rs947.length : Int) = 1)) = true := by rw [hR948.len]; kernel_rfl
  refine WL.op (v := .bool (decide ((rs947.length : Int) = 1))) rfl rfl rfl (Ex.pickT rfl (congrArg Value.bool ht945) rfl) ?_
  refine WL.op (v := .bool (decide ((rs947.length : Int) = 1))) rfl rfl rfl (Ex.move rfl rfl) ?_
  refine WL.on rfl rfl rfl (congrArg Value.bool ht952) ?_
  refine WL.op (v := .slice (some ⟨b932, 0, none⟩) 1 1) rfl rfl rfl (Ex.move rfl rfl) ?_
  refine WL.on rfl rfl rfl (congrArg Value.bool ht952) ?_
  refine WL.call rfl rfl rfl (enterS eg51 (args := [.slice (some ⟨b932, 0, none⟩) 1 1]) rfl rfl rfl rfl) (c_irreducible _ ([At.mk (Ky.mk (2 : UInt8) (1 : UInt16) (Nm.mk (97 : UInt8) 0 0 0 0 0 0 0) 0 0) (Vl.mk (3 : UInt64) Nm.zero)]) _ (hS.mem (.tail _ (.tail _ (.tail _ (.tail _ (.head _)))))) (by first | omega | (simp; done) | (simp; omega))) ?_
  rintro e W953 ⟨rfl, hB⟩
  replace hS := hS.ext hB
  refine ⟨_, rfl, ?_⟩
  have ht954 : (decide (((normAt ([At.mk (Ky.mk (2 : UInt8) (1 : UInt16) (Nm.mk (97 : UInt8) 0 0 0 0 0 0 0) 0 0) (Vl.mk (3 : UInt64) Nm.zero)])).length : Int) = 1)) = true := by kernel_rfl
  refine WL.op (v := .bool (decide (((normAt ([At.mk (Ky.mk (2 : UInt8) (1 : UInt16) (Nm.mk (97 : UInt8) 0 0 0 0 0 0 0) 0 0) (Vl.mk (3 : UInt64) Nm.zero)])).length : Int) = 1))) rfl rfl rfl (Ex.pickT rfl (congrArg Value.bool ht952) rfl) ?_
  refine WL.op (v := .bool (decide (((normAt ([At.mk (Ky.mk (2 : UInt8) (1 : UInt16) (Nm.mk (97 : UInt8) 0 0 0 0 0 0 0) 0 0) (Vl.mk (3 : UInt64) Nm.zero)])).length : Int) = 1))) rfl rfl rfl (Ex.assign rfl rfl) ?_
  refine WL.nil ?_
  refine then_normal ?_
  refine WP.ret ?_
  refine ?_
  refine rt1 (v := .bool (decide (((normAt ([At.mk (Ky.mk (2 : UInt8) (1 : UInt16) (Nm.mk (97 : UInt8) 0 0 0 0 0 0 0) 0 0) (Vl.mk (3 : UInt64) Nm.zero)])).length : Int) = 1))) rfl rfl ?_
  exact ⟨by rw [ht954], hS.bw⟩
set_option maxRecDepth 100000 in
set_option maxHeartbeats 4000000 in
theorem c_deltaLeast0 (s1 s2 s3 : Sv) (la lb lc : List At) (w : World) (ha : Sl w s1.v la) (hb : Sl w s2.v lb) (hc : Sl w s3.v lc) :
    Calls Try.prog 6 #[s1.v, s2.v, s3.v] w fun e w' => e = .returned (.bool true) ∧ Bw w w' := by
  have hS := St.begin (w := w) (pins := pinSl s1.v la :: pinSl s2.v lb :: pinSl s3.v lc :: []) ⟨ha, hb, hc, trivial⟩
  refine enter (n := 103) Try.func6 rfl rfl (Nat.le_of_ble_eq_true rfl) (l := [(0, s1.v), (1, s2.v), (2, s3.v)]) rfl ?_
  refine WP.seq ?_
  refine WP.region ?_
  refine WL.op (v := .bool false) rfl rfl rfl (Ex.assign rfl rfl) ?_
  refine WL.nil ?_
  refine then_normal ?_
  refine WP.seq ?_
  refine WP.seq ?_
  refine WP.region ?_
  refine WL.op (v := s1.v) rfl rfl rfl (Ex.move rfl rfl) ?_
  have hl955 : la.length < 4611686018427387904 := (hS.mem (.head _) : Sl _ _ _).lt
  refine WL.op (v := .int .i64 (la.length : Int)) rfl rfl rfl (Ex.lenSl (l := la) ⟨_, under22⟩ rfl rfl (hS.mem (.head _))) ?_
  refine WL.op (v := .bool (decide (40 < (la.length : Int)))) rfl rfl rfl (Ex.gt rfl rfl rfl) ?_
  refine WL.op (v := .bool (decide (40 < (la.length : Int)))) rfl rfl rfl (Ex.move rfl rfl) ?_
  rcases Bool.eq_false_or_eq_true (decide (40 < (la.length : Int))) with hg956 | hg956
  ·
    have hg956' : 40 < (la.length : Int) := by simpa using hg956
    refine WL.off (b' := true) rfl rfl rfl rfl rfl rfl (congrArg Value.bool hg956) rfl ?_
    refine WL.off (b' := true) rfl rfl rfl rfl rfl rfl (congrArg Value.bool hg956) rfl ?_
    refine WL.off (b' := true) rfl rfl rfl rfl rfl rfl (congrArg Value.bool hg956) rfl ?_
    refine WL.op (v := .bool true) rfl rfl rfl (Ex.pickT rfl (congrArg Value.bool hg956) rfl) ?_
    refine WL.op (v := .bool true) rfl rfl rfl (Ex.move rfl rfl) ?_
    refine WL.off (b' := true) rfl rfl rfl rfl rfl rfl rfl rfl ?_
    refine WL.off (b' := true) rfl rfl rfl rfl rfl rfl rfl rfl ?_
    refine WL.off (b' := true) rfl rfl rfl rfl rfl rfl rfl rfl ?_
    refine WL.op (v := .bool true) rfl rfl rfl (Ex.pickT rfl rfl rfl) ?_
    refine WL.nil ?_
    refine then_normal ?_
    refine WP.condT rfl ?_
    refine WP.seq ?_
    refine WP.region ?_
    refine WL.call rfl rfl rfl (enterS eg33 (args := []) rfl rfl rfl rfl) (c_alive11 _) ?_
    rintro e W957 ⟨rfl, hB⟩
    replace hS := hS.ext hB
    refine ⟨_, rfl, ?_⟩
    refine WL.op (v := .bool true) rfl rfl rfl (Ex.assign rfl rfl) ?_
    refine WL.nil ?_
    refine then_normal ?_
    refine WP.ret ?_
    refine then_ret (?_)
    refine rt1 (v := .bool true) rfl rfl ?_
    exact ⟨rfl, hS.bw⟩
  ·
    have hg956' : ¬ (40 < (la.length : Int)) := by simpa using hg956
    refine WL.on rfl rfl rfl (congrArg Value.bool hg956) ?_
    refine WL.op (v := s2.v) rfl rfl rfl (Ex.move rfl rfl) ?_
    refine WL.on rfl rfl rfl (congrArg Value.bool hg956) ?_
    have hl958 : lb.length < 4611686018427387904 := (hS.mem (.tail _ (.head _)) : Sl _ _ _).lt
    refine WL.op (v := .int .i64 (lb.length : Int)) rfl rfl rfl (Ex.lenSl (l := lb) ⟨_, under22⟩ rfl rfl (hS.mem (.tail _ (.head _)))) ?_
    refine WL.on rfl rfl rfl (congrArg Value.bool hg956) ?_
    refine WL.op (v := .bool (decide (40 < (lb.length : Int)))) rfl rfl rfl (Ex.gt rfl rfl rfl) ?_
    refine WL.op (v := .bool (decide (40 < (lb.length : Int)))) rfl rfl rfl (Ex.pickF rfl (congrArg Value.bool hg956) rfl) ?_
    refine WL.op (v := .bool (decide (40 < (lb.length : Int)))) rfl rfl rfl (Ex.move rfl rfl) ?_
    rcases Bool.eq_false_or_eq_true (decide (40 < (lb.length : Int))) with hg959 | hg959
    ·
      have hg959' : 40 < (lb.length : Int) := by simpa using hg959
      refine WL.off (b' := true) rfl rfl rfl rfl rfl rfl (congrArg Value.bool hg959) rfl ?_
      refine WL.off (b' := true) rfl rfl rfl rfl rfl rfl (congrArg Value.bool hg959) rfl ?_
      refine WL.off (b' := true) rfl rfl rfl rfl rfl rfl (congrArg Value.bool hg959) rfl ?_
      refine WL.op (v := .bool true) rfl rfl rfl (Ex.pickT rfl (congrArg Value.bool hg959) rfl) ?_
      refine WL.nil ?_
      refine then_normal ?_
      refine WP.condT rfl ?_
      refine WP.seq ?_
      refine WP.region ?_
      refine WL.call rfl rfl rfl (enterS eg33 (args := []) rfl rfl rfl rfl) (c_alive11 _) ?_
      rintro e W960 ⟨rfl, hB⟩
      replace hS := hS.ext hB
      refine ⟨_, rfl, ?_⟩
      refine WL.op (v := .bool true) rfl rfl rfl (Ex.assign rfl rfl) ?_
      refine WL.nil ?_
      refine then_normal ?_
      refine WP.ret ?_
      refine then_ret (?_)
      refine rt1 (v := .bool true) rfl rfl ?_
      exact ⟨rfl, hS.bw⟩
    ·
      have hg959' : ¬ (40 < (lb.length : Int)) := by simpa using hg959
      refine WL.on rfl rfl rfl (congrArg Value.bool hg959) ?_
      refine WL.op (v := s3.v) rfl rfl rfl (Ex.move rfl rfl) ?_
      refine WL.on rfl rfl rfl (congrArg Value.bool hg959) ?_
      have hl961 : lc.length < 4611686018427387904 := (hS.mem (.tail _ (.tail _ (.head _))) : Sl _ _ _).lt
      refine WL.op (v := .int .i64 (lc.length : Int)) rfl rfl rfl (Ex.lenSl (l := lc) ⟨_, under22⟩ rfl rfl (hS.mem (.tail _ (.tail _ (.head _))))) ?_
      refine WL.on rfl rfl rfl (congrArg Value.bool hg959) ?_
      refine WL.op (v := .bool (decide (40 < (lc.length : Int)))) rfl rfl rfl (Ex.gt rfl rfl rfl) ?_
      refine WL.op (v := .bool (decide (40 < (lc.length : Int)))) rfl rfl rfl (Ex.pickF rfl (congrArg Value.bool hg959) rfl) ?_
      refine WL.nil ?_
      refine then_normal ?_
      refine WP.cond (b := decide (40 < (lc.length : Int))) rfl (fun hc962 => ?_) (fun hc962 => ?_)
      ·
        have hc962' : 40 < (lc.length : Int) := by simpa using hc962
        refine WP.seq ?_
        refine WP.region ?_
        refine WL.call rfl rfl rfl (enterS eg33 (args := []) rfl rfl rfl rfl) (c_alive11 _) ?_
        rintro e W963 ⟨rfl, hB⟩
        replace hS := hS.ext hB
        refine ⟨_, rfl, ?_⟩
        refine WL.op (v := .bool true) rfl rfl rfl (Ex.assign rfl rfl) ?_
        refine WL.nil ?_
        refine then_normal ?_
        refine WP.ret ?_
        refine then_ret (?_)
        refine rt1 (v := .bool true) rfl rfl ?_
        exact ⟨rfl, hS.bw⟩
      ·
        have hc962' : ¬ (40 < (lc.length : Int)) := by simpa using hc962
        refine WP.skip ?_
        refine then_normal ?_
        refine WP.seq ?_
        refine WP.region ?_
        refine WL.op (v := s1.v) rfl rfl rfl (Ex.move rfl rfl) ?_
        refine WL.op (v := s2.v) rfl rfl rfl (Ex.move rfl rfl) ?_
        refine WL.call rfl rfl rfl (enterS eg16 (args := [s1.v, s2.v]) rfl rfl rfl rfl) (c_join _ _ la lb _ (hS.mem (.head _)) (hS.mem (.tail _ (.head _))) (by first | omega | (simp; done) | (simp; omega))) ?_
        rintro e W966 ⟨v964, rfl, hB, hv', hn'⟩
        have hN965 : New w v964 := fun b hb => Nat.le_trans hS.bw.size (hn' b hb)
        replace hS := hS.newPin hB (pinSl v964 (normAt (la ++ lb))) hv' hn'
        refine ⟨_, rfl, ?_⟩
        have hq967 := normAt_len2 la lb
        refine WL.op (v := s1.v) rfl rfl rfl (Ex.move rfl rfl) ?_
        refine WL.op (v := s2.v) rfl rfl rfl (Ex.move rfl rfl) ?_
        refine WL.call rfl rfl rfl (enterS eg34 (args := [s1.v, s2.v]) rfl rfl rfl rfl) (c_diff _ _ la lb _ (hS.mem (.tail _ (.head _))) (hS.mem (.tail _ (.tail _ (.head _)))) (by first | omega | (simp; done) | (simp; omega)) (by first | omega | (simp; done) | (simp; omega))) ?_
        rintro e W970 ⟨v968, rfl, hB, hv', hn'⟩
        have hN969 : New w v968 := fun b hb => Nat.le_trans hS.bw.size (hn' b hb)
        replace hS := hS.newPin hB (pinSl v968 (diffAt la lb)) hv' hn'
        refine ⟨_, rfl, ?_⟩
        have hq971 := diff_length la lb
        refine WL.op (v := v964) rfl rfl rfl (Ex.assign rfl rfl) ?_
        refine WL.op (v := v968) rfl rfl rfl (Ex.assign rfl rfl) ?_
        refine WL.nil ?_
        refine then_normal ?_
        refine WP.seq ?_
        refine WP.seq ?_
        refine WP.region ?_
        refine WL.op (v := v968) rfl rfl rfl (Ex.move rfl rfl) ?_
        refine WL.op (v := s2.v) rfl rfl rfl (Ex.move rfl rfl) ?_
        refine WL.call rfl rfl rfl (enterS eg16 (args := [v968, s2.v]) rfl rfl rfl rfl) (c_join _ _ (diffAt la lb) lb _ (hS.mem (.head _)) (hS.mem (.tail _ (.tail _ (.tail _ (.head _))))) (by first | omega | (simp; done) | (simp; omega))) ?_
        rintro e W974 ⟨v972, rfl, hB, hv', hn'⟩
        have hN973 : New w v972 := fun b hb => Nat.le_trans hS.bw.size (hn' b hb)
        replace hS := hS.newPin hB (pinSl v972 (normAt (diffAt la lb ++ lb))) hv' hn'
        refine ⟨_, rfl, ?_⟩
        have hq975 := normAt_len2 (diffAt la lb) lb
        refine WL.op (v := v964) rfl rfl rfl (Ex.move rfl rfl) ?_
        refine WL.call rfl rfl rfl (enterS eg15 (args := [v972, v964]) rfl rfl rfl rfl) (c_rows _ _ (normAt (diffAt la lb ++ lb)) (normAt (la ++ lb)) _ (hS.mem (.head _)) (hS.mem (.tail _ (.tail _ (.head _))))) ?_
        rintro e W976 ⟨rfl, hB⟩
        replace hS := hS.ext hB
        refine ⟨_, rfl, ?_⟩
        have ht977 : (decide (normAt (diffAt la lb ++ lb) = normAt (la ++ lb))) = true := decide_eq_true (dl1 la lb)
        refine WL.op (v := .bool (!(decide (normAt (diffAt la lb ++ lb) = normAt (la ++ lb))))) rfl rfl rfl (Ex.not rfl rfl) ?_
        refine WL.op (v := .bool (!(decide (normAt (diffAt la lb ++ lb) = normAt (la ++ lb))))) rfl rfl rfl (Ex.move rfl rfl) ?_
        refine WL.on rfl rfl rfl (congrArg (fun b => Value.bool (!b)) ht977) ?_
        refine WL.op (v := v968) rfl rfl rfl (Ex.move rfl rfl) ?_
        refine WL.on rfl rfl rfl (congrArg (fun b => Value.bool (!b)) ht977) ?_
        refine WL.op (v := s1.v) rfl rfl rfl (Ex.move rfl rfl) ?_
        refine WL.on rfl rfl rfl (congrArg (fun b => Value.bool (!b)) ht977) ?_
        refine WL.call rfl rfl rfl (enterS eg20 (args := [v968, s1.v]) rfl rfl rfl rfl) (c_leq _ _ (diffAt la lb) la _ (hS.mem (.tail _ (.head _))) (hS.mem (.tail _ (.tail _ (.tail _ (.head _))))) (by first | omega | (simp; done) | (simp; omega)) (by first | omega | (simp; done) | (simp; omega))) ?_
        rintro e W978 ⟨rfl, hB⟩
        replace hS := hS.ext hB
        refine ⟨_, rfl, ?_⟩
        have ht979 : (leqAt (diffAt la lb) la) = true := dl2 la lb
        refine WL.on rfl rfl rfl (congrArg (fun b => Value.bool (!b)) ht977) ?_
        refine WL.op (v := .bool (!(leqAt (diffAt la lb) la))) rfl rfl rfl (Ex.not rfl rfl) ?_
        refine WL.op (v := .bool (!(leqAt (diffAt la lb) la))) rfl rfl rfl (Ex.pickF rfl (congrArg (fun b => Value.bool (!b)) ht977) rfl) ?_
        refine WL.op (v := .bool (!(leqAt (diffAt la lb) la))) rfl rfl rfl (Ex.move rfl rfl) ?_
        refine WL.on rfl rfl rfl (congrArg (fun b => Value.bool (!b)) ht979) ?_
        refine WL.op (v := v968) rfl rfl rfl (Ex.move rfl rfl) ?_
        refine WL.on rfl rfl rfl (congrArg (fun b => Value.bool (!b)) ht979) ?_
        refine WL.op (v := v964) rfl rfl rfl (Ex.move rfl rfl) ?_
        refine WL.on rfl rfl rfl (congrArg (fun b => Value.bool (!b)) ht979) ?_
        refine WL.call rfl rfl rfl (enterS eg34 (args := [v968, v964]) rfl rfl rfl rfl) (c_diff _ _ (diffAt la lb) (normAt (la ++ lb)) _ (hS.mem (.tail _ (.head _))) (hS.mem (.tail _ (.tail _ (.head _)))) (by first | omega | (simp; done) | (simp; omega)) (by first | omega | (simp; done) | (simp; omega))) ?_
        rintro e W982 ⟨v980, rfl, hB, hv', hn'⟩
        have hN981 : New w v980 := fun b hb => Nat.le_trans hS.bw.size (hn' b hb)
        replace hS := hS.newPin hB (pinSl v980 (diffAt (diffAt la lb) (normAt (la ++ lb)))) hv' hn'
        refine ⟨_, rfl, ?_⟩
        have hq983 := diff_length (diffAt la lb) (normAt (la ++ lb))
        refine WL.on rfl rfl rfl (congrArg (fun b => Value.bool (!b)) ht979) ?_
        have hl984 : (diffAt (diffAt la lb) (normAt (la ++ lb))).length < 4611686018427387904 := (hS.mem (.head _) : Sl _ _ _).lt
        refine WL.op (v := .int .i64 (((diffAt (diffAt la lb) (normAt (la ++ lb))).length : Nat) : Int)) rfl rfl rfl (Ex.lenSl (l := diffAt (diffAt la lb) (normAt (la ++ lb))) ⟨_, under22⟩ rfl rfl (hS.mem (.head _))) ?_
        refine WL.on rfl rfl rfl (congrArg (fun b => Value.bool (!b)) ht979) ?_
        refine WL.op (v := .bool (!decide ((((diffAt (diffAt la lb) (normAt (la ++ lb))).length : Nat) : Int) = 0))) rfl rfl rfl (Ex.ne rfl rfl rfl) ?_
        have ht985 : (!decide ((((diffAt (diffAt la lb) (normAt (la ++ lb))).length : Nat) : Int) = 0)) = false := by rw [dl3]; rfl
        refine WL.op (v := .bool (!decide ((((diffAt (diffAt la lb) (normAt (la ++ lb))).length : Nat) : Int) = 0))) rfl rfl rfl (Ex.pickF rfl (congrArg (fun b => Value.bool (!b)) ht979) rfl) ?_
        refine WL.nil ?_
        refine then_normal ?_
        refine WP.condF (congrArg Value.bool ht985) ?_
        refine WP.skip ?_
        refine then_normal ?_
        refine WP.cut (fun a W => ∃ (l0 : Fr), a = fr 103 [] ([(0, s1.v), (1, s2.v), (2, s3.v)] ++ l0) ∧ St w ([]) (pinSl v980 (diffAt (diffAt la lb) (normAt (la ++ lb))) :: pinSl v972 (normAt (diffAt la lb ++ lb)) :: pinSl v968 (diffAt la lb) :: pinSl v964 (normAt (la ++ lb)) :: pinSl s1.v la :: pinSl s2.v lb :: pinSl s3.v lc :: []) W) ?_ ?_
        ·
          refine WP.seq ?_
          refine WP.region ?_
          refine WL.op (v := s3.v) rfl rfl rfl (Ex.move rfl rfl) ?_
          refine WL.op (v := s2.v) rfl rfl rfl (Ex.move rfl rfl) ?_
          refine WL.call rfl rfl rfl (enterS eg16 (args := [s3.v, s2.v]) rfl rfl rfl rfl) (c_join _ _ lc lb _ (hS.mem (.tail _ (.tail _ (.tail _ (.tail _ (.tail _ (.tail _ (.head _)))))))) (hS.mem (.tail _ (.tail _ (.tail _ (.tail _ (.tail _ (.head _))))))) (by first | omega | (simp; done) | (simp; omega))) ?_
          rintro e W988 ⟨v986, rfl, hB, hv', hn'⟩
          have hN987 : New w v986 := fun b hb => Nat.le_trans hS.bw.size (hn' b hb)
          replace hS := hS.newPin hB (pinSl v986 (normAt (lc ++ lb))) hv' hn'
          refine ⟨_, rfl, ?_⟩
          have hq989 := normAt_len2 lc lb
          refine WL.op (v := v964) rfl rfl rfl (Ex.move rfl rfl) ?_
          refine WL.call rfl rfl rfl (enterS eg15 (args := [v986, v964]) rfl rfl rfl rfl) (c_rows _ _ (normAt (lc ++ lb)) (normAt (la ++ lb)) _ (hS.mem (.head _)) (hS.mem (.tail _ (.tail _ (.tail _ (.tail _ (.head _))))))) ?_
          rintro e W990 ⟨rfl, hB⟩
          replace hS := hS.ext hB
          refine ⟨_, rfl, ?_⟩
          refine WL.op (v := .bool (decide (normAt (lc ++ lb) = normAt (la ++ lb)))) rfl rfl rfl (Ex.move rfl rfl) ?_
          rcases Bool.eq_false_or_eq_true (decide (normAt (lc ++ lb) = normAt (la ++ lb))) with hg992 | hg992
          ·
            have hg992' : normAt (lc ++ lb) = normAt (la ++ lb) := by simpa using hg992
            refine WL.on rfl rfl rfl (congrArg Value.bool hg992) ?_
            refine WL.op (v := v968) rfl rfl rfl (Ex.move rfl rfl) ?_
            refine WL.on rfl rfl rfl (congrArg Value.bool hg992) ?_
            refine WL.op (v := s3.v) rfl rfl rfl (Ex.move rfl rfl) ?_
            refine WL.on rfl rfl rfl (congrArg Value.bool hg992) ?_
            refine WL.call rfl rfl rfl (enterS eg20 (args := [v968, s3.v]) rfl rfl rfl rfl) (c_leq _ _ (diffAt la lb) lc _ (hS.mem (.tail _ (.tail _ (.tail _ (.head _))))) (hS.mem (.tail _ (.tail _ (.tail _ (.tail _ (.tail _ (.tail _ (.tail _ (.head _))))))))) (by first | omega | (simp; done) | (simp; omega)) (by first | omega | (simp; done) | (simp; omega))) ?_
            rintro e W993 ⟨rfl, hB⟩
            replace hS := hS.ext hB
            refine ⟨_, rfl, ?_⟩
            have ht994 : (leqAt (diffAt la lb) lc) = true := dl4 la lb lc (of_decide_eq_true hg992)
            refine WL.on rfl rfl rfl (congrArg Value.bool hg992) ?_
            refine WL.op (v := .bool (!(leqAt (diffAt la lb) lc))) rfl rfl rfl (Ex.not rfl rfl) ?_
            refine WL.op (v := .bool (!(leqAt (diffAt la lb) lc))) rfl rfl rfl (Ex.pickT rfl (congrArg Value.bool hg992) rfl) ?_
            refine WL.nil ?_
            refine then_normal ?_
            refine WP.condF (congrArg (fun b => Value.bool (!b)) ht994) ?_
            refine WP.skip ?_
            refine then_normal ?_
            exact ⟨_, fr_keep ⟨rfl, rfl, rfl, trivial⟩, hS.drop 0 1⟩
          ·
            have hg992' : ¬ (normAt (lc ++ lb) = normAt (la ++ lb)) := by simpa using hg992
            refine WL.off (b' := false) rfl rfl rfl rfl rfl rfl (congrArg Value.bool hg992) rfl ?_
            refine WL.off (b' := false) rfl rfl rfl rfl rfl rfl (congrArg Value.bool hg992) rfl ?_
            refine WL.off (b' := false) rfl rfl rfl rfl rfl rfl (congrArg Value.bool hg992) rfl ?_
            refine WL.off (b' := false) rfl rfl rfl rfl rfl rfl (congrArg Value.bool hg992) rfl ?_
            refine WL.op (v := .bool false) rfl rfl rfl (Ex.pickF rfl (congrArg Value.bool hg992) rfl) ?_
            refine WL.nil ?_
            refine then_normal ?_
            refine WP.condF rfl ?_
            refine WP.skip ?_
            refine then_normal ?_
            exact ⟨_, fr_keep ⟨rfl, rfl, rfl, trivial⟩, hS.drop 0 1⟩
        ·
          rintro a W995 ⟨l0, rfl, hS⟩
          refine WP.seq ?_
          refine WP.region ?_
          refine WL.op (v := s1.v) rfl rfl rfl (Ex.move rfl rfl) ?_
          refine WL.op (v := s2.v) rfl rfl rfl (Ex.move rfl rfl) ?_
          refine WL.op (v := s3.v) rfl rfl rfl (Ex.move rfl rfl) ?_
          refine WL.buildSlice (ps := [(0, s1.v), (1, s2.v), (2, s3.v)]) (C := #[s1.v, s2.v, s3.v]) (E := 22) rfl (fun _ => by kernel_rfl) hS rfl rfl rfl rfl (fun b996 W997 hS => ?_)
          have hO998 : OutG (α := Sv) (.slice (some ⟨b996, 0, none⟩) 3 3) (some (b996, .cells #[s1.v, s2.v, s3.v] 22)) 22 [s1, s2, s3] := .inr ⟨b996, 3, #[s1.v, s2.v, s3.v], rfl, rfl, Nat.le_refl _, by decide, rfl, rfl⟩
          refine WL.op (v := .slice (some ⟨b996, 0, none⟩) 3 3) rfl rfl rfl (Ex.assign rfl rfl) ?_
          refine WL.nil ?_
          refine then_normal ?_
          refine WP.seq ?_
          refine WP.region ?_
          refine WL.op (v := .slice (some ⟨b996, 0, none⟩) 3 3) rfl rfl rfl (Ex.move rfl rfl) ?_
          have hsl999 : Sl W997 (.slice (some ⟨b996, 0, none⟩) 3 3) ([s1, s2, s3]) := (OutG.slM hO998 hS (fun p hp => by first | (rw [hp]; simp; done) | (cases hp; simp)) (by first | omega | (simp; done) | (simp; omega))).1
          replace hS := (((hS.pinSSnil).ssSnoc (s := s1) (li := la) (.head _) (.tail _ (.tail _ (.tail _ (.tail _ (.tail _ (.head _)))))) rfl).ssSnoc (s := s2) (li := lb) (.head _) (.tail _ (.tail _ (.tail _ (.tail _ (.tail _ (.tail _ (.tail _ (.head _)))))))) rfl).ssSnoc (s := s3) (li := lc) (.head _) (.tail _ (.tail _ (.tail _ (.tail _ (.tail _ (.tail _ (.tail _ (.tail _ (.tail _ (.head _)))))))))) rfl
          refine WL.call rfl rfl rfl (enterS eg35 (args := [.slice (some ⟨b996, 0, none⟩) 3 3]) rfl rfl rfl rfl) (c_needless _ ([s1, s2, s3]) ([la, lb, lc]) _ hsl999 (hS.mem (.head _)) rfl (hO998.capd) (by simp) (by simp; omega)) ?_
          rintro e W1002 ⟨v1000, rfl, hB, hv', hn1001⟩
          replace hsl999 := hsl999.bw hB
          replace hS := hS.newPin hB (pinSl v1000 (needF ([la, lb, lc]) ([la, lb, lc]).length).1) hv' hn1001
          refine ⟨_, rfl, ?_⟩
          refine WL.op (v := v1000) rfl rfl rfl (Ex.assign rfl rfl) ?_
          refine WL.nil ?_
          refine then_normal ?_
          refine WP.seq ?_
          refine WP.seq ?_
          refine WP.region ?_
          refine WL.op (v := .int .i64 0) rfl rfl rfl (Ex.assign rfl rfl) ?_
          refine WL.nil ?_
          refine then_normal ?_
          refine WP.block ?_
          replace hS := hS.again (.tail _ (.head _))
          refine WP.loop (fun (μ : Nat) a W => ∃ (k : Nat), ∃ (el : Option (Nat × Obj)), ∃ (dl : List Sv), ∃ (lss : List (List At)), ∃ (l0 : Fr), a = fr 103 [] ([(0, s1.v), (1, s2.v), (2, s3.v), (9, .slice (some ⟨b996, 0, none⟩) 3 3), (10, v1000), (11, .int .i64 (k : Int))] ++ l0) ∧ μ = (needF ([la, lb, lc]) ([la, lb, lc]).length).1.length - k ∧ k ≤ (needF ([la, lb, lc]) ([la, lb, lc]).length).1.length ∧ St w (el.toList) (pinSS dl lss :: pinSl v1000 ((needF ([la, lb, lc]) ([la, lb, lc]).length).1) :: pinSS [s1, s2, s3] [la, lb, lc] :: pinSS (([] ++ [s1]) ++ [s2]) (([] ++ [la]) ++ [lb]) :: pinSS ([] ++ [s1]) ([] ++ [la]) :: pinSS [] [] :: pinSl v980 (diffAt (diffAt la lb) (normAt (la ++ lb))) :: pinSl v972 (normAt (diffAt la lb ++ lb)) :: pinSl v968 (diffAt la lb) :: pinSl v964 (normAt (la ++ lb)) :: pinSl s1.v la :: pinSl s2.v lb :: pinSl s3.v lc :: []) W ∧ (OutG (.slice (some ⟨b996, 0, none⟩) 3 3) el 22 dl) ∧ (lss = setsAt [la, lb, lc] ((needF ([la, lb, lc]) ([la, lb, lc]).length).1.take k)) ∧ (dl.length = lss.length) ∧ (dl.length = 3) ∧ (lss.flatten.length ≤ 1048576)) id _ ⟨0, (some (b996, .cells #[s1.v, s2.v, s3.v] 22)), [s1, s2, s3], [la, lb, lc], _, fr_keep ⟨rfl, rfl, rfl, rfl, rfl, rfl, trivial⟩, rfl, by omega, hS, hO998, rfl, rfl, rfl, (by simp; omega)⟩ ?_
          rintro μ a W1003 ⟨k, el, dl, lss, l0, rfl, rfl, hk, hS, hOl, hst, hlen2, hdl, hl3⟩
          refine WP.seq ?_
          refine WP.seq ?_
          refine WP.region ?_
          refine WL.op (v := .int .i64 (k : Int)) rfl rfl rfl (Ex.move rfl rfl) ?_
          refine WL.op (v := v1000) rfl rfl rfl (Ex.move rfl rfl) ?_
          have hl1004 : ((needF ([la, lb, lc]) ([la, lb, lc]).length).1).length < 4611686018427387904 := (hS.mem (.tail _ (.head _)) : Sl _ _ _).lt
          refine WL.op (v := .int .i64 ((((needF ([la, lb, lc]) ([la, lb, lc]).length).1).length : Nat) : Int)) rfl rfl rfl (Ex.lenSl (l := (needF ([la, lb, lc]) ([la, lb, lc]).length).1) ⟨_, under43⟩ rfl rfl (hS.mem (.tail _ (.head _)))) ?_
          refine WL.op (v := .bool (decide ((k : Int) < ((((needF ([la, lb, lc]) ([la, lb, lc]).length).1).length : Nat) : Int)))) rfl rfl rfl (Ex.lt rfl rfl rfl) ?_
          refine WL.nil ?_
          refine then_normal ?_
          refine WP.cond (b := decide ((k : Int) < ((((needF ([la, lb, lc]) ([la, lb, lc]).length).1).length : Nat) : Int))) rfl (fun hc1005 => ?_) (fun hc1005 => ?_)
          ·
            have hc1005' : (k : Int) < ((((needF ([la, lb, lc]) ([la, lb, lc]).length).1).length : Nat) : Int) := by simpa using hc1005
            refine WP.skip ?_
            refine then_normal ?_
            refine WP.seq ?_
            refine WP.block ?_
            refine WP.seq ?_
            refine WP.seq ?_
            refine WP.region ?_
            refine WL.op (v := v1000) rfl rfl rfl (Ex.move rfl rfl) ?_
            refine WL.op (v := .int .i64 (k : Int)) rfl rfl rfl (Ex.move rfl rfl) ?_
            obtain ⟨b1006, p1007, x1008, hx1009, hi1010, hS⟩ := hS.elem (α := Int) (k := k) (.tail _ (.head _)) under43 tySz3 (by omega)
            refine WL.op (v := .pointer (some ⟨b1006, p1007, none⟩)) rfl rfl rfl (Ex.indexC hi1010 rfl rfl rfl) ?_
            refine WL.op (v := .int .i64 x1008) rfl rfl rfl (Ex.load1 tyOne3 rfl rfl (Reads.sub (cs := [.int .i64 x1008]) (hS.get 0 rfl) 0 (ds := [.int .i64 x1008]) rfl)) ?_
            refine WL.op (v := .bool (decide (x1008 < 0))) rfl rfl rfl (Ex.lt rfl rfl rfl) ?_
            refine WL.op (v := .bool (decide (x1008 < 0))) rfl rfl rfl (Ex.move rfl rfl) ?_
            rcases Bool.eq_false_or_eq_true (decide (x1008 < 0)) with hg1011 | hg1011
            ·
              have hg1011' : x1008 < 0 := by simpa using hg1011
              refine WL.off (b' := true) rfl rfl rfl rfl rfl rfl (congrArg Value.bool hg1011) rfl ?_
              refine WL.off (b' := true) rfl rfl rfl rfl rfl rfl (congrArg Value.bool hg1011) rfl ?_
              refine WL.off (b' := true) rfl rfl rfl rfl rfl rfl (congrArg Value.bool hg1011) rfl ?_
              refine WL.off (b' := true) rfl rfl rfl rfl rfl rfl (congrArg Value.bool hg1011) rfl ?_
              refine WL.off (b' := true) rfl rfl rfl rfl rfl rfl (congrArg Value.bool hg1011) rfl ?_
              refine WL.op (v := .bool true) rfl rfl rfl (Ex.pickT rfl (congrArg Value.bool hg1011) rfl) ?_
              refine WL.nil ?_
              refine then_normal ?_
              refine WP.condT rfl ?_
              refine WP.seq ?_
              refine WP.region ?_
              refine WL.op (v := .bool false) rfl rfl rfl (Ex.assign rfl rfl) ?_
              refine WL.nil ?_
              refine then_normal ?_
              refine WP.ret ?_
              refine then_ret (inBlock_ret (then_ret (then_ret (inBlock_ret (then_ret (?_))))))
              refine rt1 (v := .bool false) rfl rfl ?_
              obtain ⟨n1, hn1, hxn1⟩ := (needF_idx [la, lb, lc] _).2 x1008 (List.mem_of_getElem? hx1009)
              have hn4 : n1 < 3 := hn1
              exfalso; omega
            ·
              have hg1011' : ¬ (x1008 < 0) := by simpa using hg1011
              refine WL.on rfl rfl rfl (congrArg Value.bool hg1011) ?_
              refine WL.op (v := v1000) rfl rfl rfl (Ex.move rfl rfl) ?_
              refine WL.on rfl rfl rfl (congrArg Value.bool hg1011) ?_
              refine WL.op (v := .int .i64 (k : Int)) rfl rfl rfl (Ex.move rfl rfl) ?_
              refine WL.on rfl rfl rfl (congrArg Value.bool hg1011) ?_
              refine WL.op (v := .pointer (some ⟨b1006, p1007, none⟩)) rfl rfl rfl (Ex.indexC hi1010 rfl rfl rfl) ?_
              refine WL.on rfl rfl rfl (congrArg Value.bool hg1011) ?_
              refine WL.op (v := .int .i64 x1008) rfl rfl rfl (Ex.load1 tyOne3 rfl rfl (Reads.sub (cs := [.int .i64 x1008]) (hS.get 0 rfl) 0 (ds := [.int .i64 x1008]) rfl)) ?_
              refine WL.on rfl rfl rfl (congrArg Value.bool hg1011) ?_
              refine WL.op (v := .bool (decide (2 < x1008))) rfl rfl rfl (Ex.gt rfl rfl rfl) ?_
              obtain ⟨n0, hn0, hxn⟩ := (needF_idx [la, lb, lc] _).2 x1008 (List.mem_of_getElem? hx1009)
              have hn3 : n0 < 3 := hn0
              have hxe : ((x1008.toNat : Nat) : Int) = x1008 := by omega
              refine WL.op (v := .bool (decide (2 < x1008))) rfl rfl rfl (Ex.pickF rfl (congrArg Value.bool hg1011) rfl) ?_
              refine WL.nil ?_
              refine then_normal ?_
              refine WP.cond (b := decide (2 < x1008)) rfl (fun hc1012 => ?_) (fun hc1012 => ?_)
              ·
                have hc1012' : 2 < x1008 := by simpa using hc1012
                refine WP.seq ?_
                refine WP.region ?_
                refine WL.op (v := .bool false) rfl rfl rfl (Ex.assign rfl rfl) ?_
                refine WL.nil ?_
                refine then_normal ?_
                refine WP.ret ?_
                refine then_ret (inBlock_ret (then_ret (then_ret (inBlock_ret (then_ret (?_))))))
                refine rt1 (v := .bool false) rfl rfl ?_
                obtain ⟨n1, hn1, hxn1⟩ := (needF_idx [la, lb, lc] _).2 x1008 (List.mem_of_getElem? hx1009)
                have hn4 : n1 < 3 := hn1
                exfalso; omega
              ·
                have hc1012' : ¬ (2 < x1008) := by simpa using hc1012
                refine WP.skip ?_
                refine then_normal ?_
                refine WP.region ?_
                refine WL.op (v := .slice (some ⟨b996, 0, none⟩) 3 3) rfl rfl rfl (Ex.move rfl rfl) ?_
                refine WL.op (v := v1000) rfl rfl rfl (Ex.move rfl rfl) ?_
                refine WL.op (v := .int .i64 (k : Int)) rfl rfl rfl (Ex.move rfl rfl) ?_
                refine WL.op (v := .pointer (some ⟨b1006, p1007, none⟩)) rfl rfl rfl (Ex.indexC hi1010 rfl rfl rfl) ?_
                refine WL.op (v := .int .i64 x1008) rfl rfl rfl (Ex.load1 tyOne3 rfl rfl (Reads.sub (cs := [.int .i64 x1008]) (hS.get 0 rfl) 0 (ds := [.int .i64 x1008]) rfl)) ?_
                obtain ⟨g1013, og1014, rfl, hi1015⟩ := OutG.spot (i := x1008.toNat) hOl under42 tySz22 (by omega)
                rw [hxe] at hi1015
                refine WL.op (v := .pointer (some ⟨g1013, x1008.toNat * Enc.sz Sv, none⟩)) rfl rfl rfl (Ex.indexC hi1015 rfl rfl rfl) ?_
                refine WL.storeOut (α := Sv) (a := (Sv.mk none 0 0)) (i := x1008.toNat) hOl tySz22 (by omega) [] hS rfl rfl rfl rfl rfl (fun og1018 W1017 hO1019 hS => ?_)
                refine WL.nil ?_
                refine inBlock_normal ?_
                refine then_normal ?_
                refine WP.region ?_
                refine WL.op (v := .int .i64 (k : Int)) rfl rfl rfl (Ex.move rfl rfl) ?_
                refine WL.op (v := .int .i64 ((k + 1 : Nat) : Int)) rfl rfl rfl (Ex.add rfl rfl rfl (wrap_succ (by omega))) ?_
                refine WL.op (v := .int .i64 ((k + 1 : Nat) : Int)) rfl rfl rfl (Ex.assign rfl rfl) ?_
                refine WL.nil ?_
                refine then_normal ?_
                replace hS := hS.ssSet (.tail _ (.head _)) x1008.toNat
                exact ⟨_, ⟨k + 1, (some (g1013, og1018)), dl.set x1008.toNat (Sv.mk none 0 0), lss.set x1008.toNat [], _, fr_keep ⟨rfl, rfl, rfl, rfl, rfl, rfl, trivial⟩, rfl, by omega, (hS.repin 0 ⟨(.head _), (.tail _ (.tail _ (.tail _ (.head _)))), (.tail _ (.tail _ (.tail _ (.tail _ (.head _))))), (.tail _ (.tail _ (.tail _ (.tail _ (.tail _ (.head _)))))), (.tail _ (.tail _ (.tail _ (.tail _ (.tail _ (.tail _ (.head _))))))), (.tail _ (.tail _ (.tail _ (.tail _ (.tail _ (.tail _ (.tail _ (.head _)))))))), (.tail _ (.tail _ (.tail _ (.tail _ (.tail _ (.tail _ (.tail _ (.tail _ (.head _))))))))), (.tail _ (.tail _ (.tail _ (.tail _ (.tail _ (.tail _ (.tail _ (.tail _ (.tail _ (.head _)))))))))), (.tail _ (.tail _ (.tail _ (.tail _ (.tail _ (.tail _ (.tail _ (.tail _ (.tail _ (.tail _ (.head _))))))))))), (.tail _ (.tail _ (.tail _ (.tail _ (.tail _ (.tail _ (.tail _ (.tail _ (.tail _ (.tail _ (.tail _ (.head _)))))))))))), (.tail _ (.tail _ (.tail _ (.tail _ (.tail _ (.tail _ (.tail _ (.tail _ (.tail _ (.tail _ (.tail _ (.tail _ (.head _))))))))))))), (.tail _ (.tail _ (.tail _ (.tail _ (.tail _ (.tail _ (.tail _ (.tail _ (.tail _ (.tail _ (.tail _ (.tail _ (.tail _ (.head _)))))))))))))), (.tail _ (.tail _ (.tail _ (.tail _ (.tail _ (.tail _ (.tail _ (.tail _ (.tail _ (.tail _ (.tail _ (.tail _ (.tail _ (.tail _ (.head _))))))))))))))), trivial⟩), hO1019, (by rw [take_snoc? hx1009, setsAt_snoc, hst]), (by simp [hlen2]), (by simp [hdl]), (Nat.le_trans (flatten_set_le _ _) hl3)⟩, by simp only [id]; omega⟩
          ·
            have hc1005' : ¬ ((k : Int) < ((((needF ([la, lb, lc]) ([la, lb, lc]).length).1).length : Nat) : Int)) := by simpa using hc1005
            refine WP.exit ?_
            refine then_exit (then_exit (inBlock_same (?_)))
            refine then_normal ?_
            refine WP.seq ?_
            refine WP.region ?_
            refine WL.op (v := .slice (some ⟨b996, 0, none⟩) 3 3) rfl rfl rfl (Ex.move rfl rfl) ?_
            have hsl1021 : Sl W1003 (.slice (some ⟨b996, 0, none⟩) 3 3) dl := (OutG.slM hOl hS (fun p hp => by first | (rw [hp]; simp; done) | (cases hp; simp)) (by first | omega | (simp; done) | (simp; omega))).1
            refine WL.call rfl rfl rfl (enterS eg36 (args := [.slice (some ⟨b996, 0, none⟩) 3 3]) rfl rfl rfl rfl) (c_all _ dl lss _ hsl1021 (hS.mem (.head _)) hlen2 hl3) ?_
            rintro e W1023 ⟨v1020, rfl, hB, hv', hn'⟩
            have hN1022 : New w v1020 := fun b hb => Nat.le_trans hS.bw.size (hn' b hb)
            replace hsl1021 := hsl1021.bw hB
            replace hS := hS.newPin hB (pinSl v1020 (normAt lss.flatten)) hv' hn'
            refine ⟨_, rfl, ?_⟩
            have hq1024 := Nat.le_trans (normAt_length lss.flatten) (hl3)
            refine WL.op (v := s1.v) rfl rfl rfl (Ex.move rfl rfl) ?_
            refine WL.op (v := s2.v) rfl rfl rfl (Ex.move rfl rfl) ?_
            refine WL.op (v := s3.v) rfl rfl rfl (Ex.move rfl rfl) ?_
            refine WL.buildSlice (ps := [(0, s1.v), (1, s2.v), (2, s3.v)]) (C := #[s1.v, s2.v, s3.v]) (E := 22) rfl (fun _ => by kernel_rfl) hS rfl rfl rfl rfl (fun b1025 W1026 hS => ?_)
            replace hS := hS.slice (xs := [s1, s2, s3]) (cap := 3) rfl (by simp)
            refine WL.call rfl rfl rfl (enterS eg36 (args := [.slice (some ⟨b1025, 0, none⟩) 3 3]) rfl rfl rfl rfl) (c_all _ [s1, s2, s3] [la, lb, lc] _ (hS.mem (.head _)) (SS.cons (hS.mem (.tail _ (.tail _ (.tail _ (.tail _ (.tail _ (.tail _ (.tail _ (.tail _ (.tail _ (.tail _ (.tail _ (.tail _ (.head _)))))))))))))) (SS.cons (hS.mem (.tail _ (.tail _ (.tail _ (.tail _ (.tail _ (.tail _ (.tail _ (.tail _ (.tail _ (.tail _ (.tail _ (.tail _ (.tail _ (.head _))))))))))))))) (SS.cons (hS.mem (.tail _ (.tail _ (.tail _ (.tail _ (.tail _ (.tail _ (.tail _ (.tail _ (.tail _ (.tail _ (.tail _ (.tail _ (.tail _ (.tail _ (.head _)))))))))))))))) (SS.nil)))) rfl (by simp; omega)) ?_
            rintro e W1029 ⟨v1027, rfl, hB, hv', hn'⟩
            have hN1028 : New w v1027 := fun b hb => Nat.le_trans hS.bw.size (hn' b hb)
            replace hS := hS.newPin hB (pinSl v1027 (normAt [la, lb, lc].flatten)) hv' hn'
            refine ⟨_, rfl, ?_⟩
            have hq1030 := normAt_length [la, lb, lc].flatten
            refine WL.call rfl rfl rfl (enterS eg15 (args := [v1020, v1027]) rfl rfl rfl rfl) (c_rows _ _ (normAt lss.flatten) (normAt [la, lb, lc].flatten) _ (hS.mem (.tail _ (.tail _ (.head _)))) (hS.mem (.head _))) ?_
            rintro e W1031 ⟨rfl, hB⟩
            replace hS := hS.ext hB
            refine ⟨_, rfl, ?_⟩
            have hfin : normAt lss.flatten = normAt [la, lb, lc].flatten := by rw [hst, show k = (needF ([la, lb, lc]) ([la, lb, lc]).length).1.length by omega, List.take_length, need_sets]; exact need_norm [la, lb, lc]
            have ht1032 : (decide (normAt lss.flatten = normAt [la, lb, lc].flatten)) = true := decide_eq_true hfin
            refine WL.op (v := .bool (decide (normAt lss.flatten = normAt [la, lb, lc].flatten))) rfl rfl rfl (Ex.move rfl rfl) ?_
            refine WL.on rfl rfl rfl (congrArg Value.bool ht1032) ?_
            refine WL.call rfl rfl rfl (enterS eg33 (args := []) rfl rfl rfl rfl) (c_alive11 _) ?_
            rintro e W1033 ⟨rfl, hB⟩
            replace hS := hS.ext hB
            refine ⟨_, rfl, ?_⟩
            refine WL.op (v := .bool true) rfl rfl rfl (Ex.pickT rfl (congrArg Value.bool ht1032) rfl) ?_
            refine WL.op (v := .bool true) rfl rfl rfl (Ex.assign rfl rfl) ?_
            refine WL.nil ?_
            refine then_normal ?_
            refine WP.ret ?_
            refine ?_
            refine rt1 (v := .bool true) rfl rfl ?_
            exact ⟨rfl, hS.bw⟩
theorem c_deltaLeast (v1 v2 v3 : Value) (la lb lc : List At) (w : World) (ha : Sl w v1 la) (hb : Sl w v2 lb) (hc : Sl w v3 lc) : Calls Try.prog 6 #[v1, v2, v3] w fun e w' => e = .returned (.bool true) ∧ Bw w w' := by
  obtain ⟨p1, c1, rfl⟩ := ha.len
  obtain ⟨p2, c2, rfl⟩ := hb.len
  obtain ⟨p3, c3, rfl⟩ := hc.len
  exact c_deltaLeast0 ⟨p1, _, c1⟩ ⟨p2, _, c2⟩ ⟨p3, _, c3⟩ la lb lc w ha hb hc
end Go.Proofs.Ythidakffgcjjiaa
