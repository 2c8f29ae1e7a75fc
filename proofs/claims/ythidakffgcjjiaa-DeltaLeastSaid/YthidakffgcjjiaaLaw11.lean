/- The walks of the statements of layer 11: the probe, DeltaLeast. -/
import Derived.Test.YthidakffgcjjiaaDelta
namespace Go.Proofs.Ythidakffgcjjiaa
open Go.RowKit Go.Sort

theorem c_parts (v : Value) (l : List At) (w : World) (hv : Sl w v l) (hl : l.length ≤ 1048576) : Calls Try.prog 50 #[v] w fun e w' => ∃ v' rs, e = .returned v' ∧ Bw w w' ∧ RowsNew w w' v' ((normAt l).map (fun a => [a])) rs := by
  obtain ⟨p, cap, rfl⟩ := hv.len
  exact c_parts0 ⟨p, l.length, cap⟩ l w hv hl
set_option maxRecDepth 100000 in
set_option maxHeartbeats 1000000 in
theorem c_alive11 (w : World) :
    Calls Try.prog 33 #[] w fun e w' => e = .returned (.bool true) ∧ Bw w w' := by
  have hS := St.begin (w := w) (pins := []) trivial
  refine enter (n := 28) Try.func33 rfl rfl (Nat.le_of_ble_eq_true rfl) (l := []) rfl ?_
  refine WP.seq ?_
  refine WP.region ?_
  refine WL.op (v := .bool false) rfl rfl rfl (Ex.assign rfl rfl) ?_
  refine WL.nil ?_
  refine then_normal ?_
  refine WP.seq ?_
  refine WP.region ?_
  refine WL.op (v := .agg (Nm.mk (97 : UInt8) 0 0 0 0 0 0 0).enc) rfl rfl rfl (Ex.build (ps := [(0, .int .u8 97)]) rfl rfl (by kernel_rfl)) ?_
  refine WL.op (v := .agg (Ky.mk (2 : UInt8) (1 : UInt16) (Nm.mk (97 : UInt8) 0 0 0 0 0 0 0) 0 0).enc) rfl rfl rfl (Ex.build (ps := [(0, .int .u8 2), (1, .int .u16 1), (2, .agg (Nm.mk (97 : UInt8) 0 0 0 0 0 0 0).enc)]) rfl rfl (by kernel_rfl)) ?_
  refine WL.op (v := .agg (Vl.mk (3 : UInt64) Nm.zero).enc) rfl rfl rfl (Ex.build (ps := [(0, .int .u64 3)]) rfl rfl (by kernel_rfl)) ?_
  refine WL.op (v := .agg (At.mk (Ky.mk (2 : UInt8) (1 : UInt16) (Nm.mk (97 : UInt8) 0 0 0 0 0 0 0) 0 0) (Vl.mk (3 : UInt64) Nm.zero)).enc) rfl rfl rfl (Ex.build (ps := [(0, .agg (Ky.mk (2 : UInt8) (1 : UInt16) (Nm.mk (97 : UInt8) 0 0 0 0 0 0 0) 0 0).enc), (1, .agg (Vl.mk (3 : UInt64) Nm.zero).enc)]) rfl rfl (by kernel_rfl)) ?_
  refine WL.buildSlice (ps := [(0, .agg (At.mk (Ky.mk (2 : UInt8) (1 : UInt16) (Nm.mk (97 : UInt8) 0 0 0 0 0 0 0) 0 0) (Vl.mk (3 : UInt64) Nm.zero)).enc)]) (C := (At.mk (Ky.mk (2 : UInt8) (1 : UInt16) (Nm.mk (97 : UInt8) 0 0 0 0 0 0 0) 0 0) (Vl.mk (3 : UInt64) Nm.zero)).enc) (E := 71) rfl (fun _ => by kernel_rfl) hS rfl rfl rfl rfl (fun b930 W931 hS => ?_)
  have hNb930 : w.heap.size ≤ b930 := hS.ge 0 rfl
  replace hS := hS.slice (α := At) (xs := [At.mk (Ky.mk (2 : UInt8) (1 : UInt16) (Nm.mk (97 : UInt8) 0 0 0 0 0 0 0) 0 0) (Vl.mk (3 : UInt64) Nm.zero)]) (cap := 1) rfl (by simp)
  refine WL.op (v := .slice (some ⟨b930, 0, none⟩) 1 1) rfl rfl rfl (Ex.assign rfl rfl) ?_
  refine WL.nil ?_
  refine then_normal ?_
  refine WP.seq ?_
  refine WP.region ?_
  refine WL.op (v := .slice (some ⟨b930, 0, none⟩) 1 1) rfl rfl rfl (Ex.move rfl rfl) ?_
  refine WL.op (v := .slice (some ⟨b930, 0, none⟩) 1 1) rfl rfl rfl (Ex.move rfl rfl) ?_
  refine WL.call rfl rfl rfl (enterS eg34 (args := [.slice (some ⟨b930, 0, none⟩) 1 1, .slice (some ⟨b930, 0, none⟩) 1 1]) rfl rfl rfl rfl) (c_diff _ _ ([At.mk (Ky.mk (2 : UInt8) (1 : UInt16) (Nm.mk (97 : UInt8) 0 0 0 0 0 0 0) 0 0) (Vl.mk (3 : UInt64) Nm.zero)]) ([At.mk (Ky.mk (2 : UInt8) (1 : UInt16) (Nm.mk (97 : UInt8) 0 0 0 0 0 0 0) 0 0) (Vl.mk (3 : UInt64) Nm.zero)]) _ (hS.mem (.head _)) (hS.mem (.head _)) (by first | omega | (simp; done) | (simp; omega)) (by first | omega | (simp; done) | (simp; omega))) ?_
  rintro e W934 ⟨v932, rfl, hB, hv', hn'⟩
  have hN933 : New w v932 := fun b hb => Nat.le_trans hS.bw.size (hn' b hb)
  replace hS := hS.newPin hB (pinSl v932 (diffAt ([At.mk (Ky.mk (2 : UInt8) (1 : UInt16) (Nm.mk (97 : UInt8) 0 0 0 0 0 0 0) 0 0) (Vl.mk (3 : UInt64) Nm.zero)]) ([At.mk (Ky.mk (2 : UInt8) (1 : UInt16) (Nm.mk (97 : UInt8) 0 0 0 0 0 0 0) 0 0) (Vl.mk (3 : UInt64) Nm.zero)]))) hv' hn'
  refine ⟨_, rfl, ?_⟩
  have hq935 := diff_length ([At.mk (Ky.mk (2 : UInt8) (1 : UInt16) (Nm.mk (97 : UInt8) 0 0 0 0 0 0 0) 0 0) (Vl.mk (3 : UInt64) Nm.zero)]) ([At.mk (Ky.mk (2 : UInt8) (1 : UInt16) (Nm.mk (97 : UInt8) 0 0 0 0 0 0 0) 0 0) (Vl.mk (3 : UInt64) Nm.zero)])
  have hl936 : (diffAt ([At.mk (Ky.mk (2 : UInt8) (1 : UInt16) (Nm.mk (97 : UInt8) 0 0 0 0 0 0 0) 0 0) (Vl.mk (3 : UInt64) Nm.zero)]) ([At.mk (Ky.mk (2 : UInt8) (1 : UInt16) (Nm.mk (97 : UInt8) 0 0 0 0 0 0 0) 0 0) (Vl.mk (3 : UInt64) Nm.zero)])).length < 4611686018427387904 := (hS.mem (.head _) : Sl _ _ _).lt
  refine WL.op (v := .int .i64 (((diffAt ([At.mk (Ky.mk (2 : UInt8) (1 : UInt16) (Nm.mk (97 : UInt8) 0 0 0 0 0 0 0) 0 0) (Vl.mk (3 : UInt64) Nm.zero)]) ([At.mk (Ky.mk (2 : UInt8) (1 : UInt16) (Nm.mk (97 : UInt8) 0 0 0 0 0 0 0) 0 0) (Vl.mk (3 : UInt64) Nm.zero)])).length : Nat) : Int)) rfl rfl rfl (Ex.lenSl (l := diffAt ([At.mk (Ky.mk (2 : UInt8) (1 : UInt16) (Nm.mk (97 : UInt8) 0 0 0 0 0 0 0) 0 0) (Vl.mk (3 : UInt64) Nm.zero)]) ([At.mk (Ky.mk (2 : UInt8) (1 : UInt16) (Nm.mk (97 : UInt8) 0 0 0 0 0 0 0) 0 0) (Vl.mk (3 : UInt64) Nm.zero)])) ⟨_, under22⟩ rfl rfl (hS.mem (.head _))) ?_
  refine WL.op (v := .bool (decide ((((diffAt ([At.mk (Ky.mk (2 : UInt8) (1 : UInt16) (Nm.mk (97 : UInt8) 0 0 0 0 0 0 0) 0 0) (Vl.mk (3 : UInt64) Nm.zero)]) ([At.mk (Ky.mk (2 : UInt8) (1 : UInt16) (Nm.mk (97 : UInt8) 0 0 0 0 0 0 0) 0 0) (Vl.mk (3 : UInt64) Nm.zero)])).length : Nat) : Int) = 0))) rfl rfl rfl (Ex.eq rfl rfl rfl) ?_
  have ht937 : (decide ((((diffAt ([At.mk (Ky.mk (2 : UInt8) (1 : UInt16) (Nm.mk (97 : UInt8) 0 0 0 0 0 0 0) 0 0) (Vl.mk (3 : UInt64) Nm.zero)]) ([At.mk (Ky.mk (2 : UInt8) (1 : UInt16) (Nm.mk (97 : UInt8) 0 0 0 0 0 0 0) 0 0) (Vl.mk (3 : UInt64) Nm.zero)])).length : Nat) : Int) = 0)) = true := by kernel_rfl
  refine WL.op (v := .bool (decide ((((diffAt ([At.mk (Ky.mk (2 : UInt8) (1 : UInt16) (Nm.mk (97 : UInt8) 0 0 0 0 0 0 0) 0 0) (Vl.mk (3 : UInt64) Nm.zero)]) ([At.mk (Ky.mk (2 : UInt8) (1 : UInt16) (Nm.mk (97 : UInt8) 0 0 0 0 0 0 0) 0 0) (Vl.mk (3 : UInt64) Nm.zero)])).length : Nat) : Int) = 0))) rfl rfl rfl (Ex.move rfl rfl) ?_
  refine WL.on rfl rfl rfl (congrArg Value.bool ht937) ?_
  refine WL.op (v := .slice (some ⟨b930, 0, none⟩) 1 1) rfl rfl rfl (Ex.move rfl rfl) ?_
  refine WL.on rfl rfl rfl (congrArg Value.bool ht937) ?_
  refine WL.call rfl rfl rfl (enterS eg34 (args := [.slice (some ⟨b930, 0, none⟩) 1 1, .slice none 0 0]) rfl rfl rfl rfl) (c_diff _ _ ([At.mk (Ky.mk (2 : UInt8) (1 : UInt16) (Nm.mk (97 : UInt8) 0 0 0 0 0 0 0) 0 0) (Vl.mk (3 : UInt64) Nm.zero)]) ([] : List At) _ (hS.mem (.tail _ (.head _))) (Or.inl ⟨rfl, rfl⟩) (by first | omega | (simp; done) | (simp; omega)) (by first | omega | (simp; done) | (simp; omega))) ?_
  rintro e W940 ⟨v938, rfl, hB, hv', hn'⟩
  have hN939 : New w v938 := fun b hb => Nat.le_trans hS.bw.size (hn' b hb)
  replace hS := hS.newPin hB (pinSl v938 (diffAt ([At.mk (Ky.mk (2 : UInt8) (1 : UInt16) (Nm.mk (97 : UInt8) 0 0 0 0 0 0 0) 0 0) (Vl.mk (3 : UInt64) Nm.zero)]) ([] : List At))) hv' hn'
  refine ⟨_, rfl, ?_⟩
  have hq941 := diff_length ([At.mk (Ky.mk (2 : UInt8) (1 : UInt16) (Nm.mk (97 : UInt8) 0 0 0 0 0 0 0) 0 0) (Vl.mk (3 : UInt64) Nm.zero)]) ([] : List At)
  refine WL.on rfl rfl rfl (congrArg Value.bool ht937) ?_
  refine WL.op (v := .slice (some ⟨b930, 0, none⟩) 1 1) rfl rfl rfl (Ex.move rfl rfl) ?_
  refine WL.on rfl rfl rfl (congrArg Value.bool ht937) ?_
  refine WL.call rfl rfl rfl (enterS eg15 (args := [v938, .slice (some ⟨b930, 0, none⟩) 1 1]) rfl rfl rfl rfl) (c_rows _ _ (diffAt ([At.mk (Ky.mk (2 : UInt8) (1 : UInt16) (Nm.mk (97 : UInt8) 0 0 0 0 0 0 0) 0 0) (Vl.mk (3 : UInt64) Nm.zero)]) ([] : List At)) ([At.mk (Ky.mk (2 : UInt8) (1 : UInt16) (Nm.mk (97 : UInt8) 0 0 0 0 0 0 0) 0 0) (Vl.mk (3 : UInt64) Nm.zero)]) _ (hS.mem (.head _)) (hS.mem (.tail _ (.tail _ (.head _))))) ?_
  rintro e W942 ⟨rfl, hB⟩
  replace hS := hS.ext hB
  refine ⟨_, rfl, ?_⟩
  have ht943 : (decide (diffAt ([At.mk (Ky.mk (2 : UInt8) (1 : UInt16) (Nm.mk (97 : UInt8) 0 0 0 0 0 0 0) 0 0) (Vl.mk (3 : UInt64) Nm.zero)]) ([] : List At) = [At.mk (Ky.mk (2 : UInt8) (1 : UInt16) (Nm.mk (97 : UInt8) 0 0 0 0 0 0 0) 0 0) (Vl.mk (3 : UInt64) Nm.zero)])) = true := by kernel_rfl
  refine WL.op (v := .bool (decide (diffAt ([At.mk (Ky.mk (2 : UInt8) (1 : UInt16) (Nm.mk (97 : UInt8) 0 0 0 0 0 0 0) 0 0) (Vl.mk (3 : UInt64) Nm.zero)]) ([] : List At) = [At.mk (Ky.mk (2 : UInt8) (1 : UInt16) (Nm.mk (97 : UInt8) 0 0 0 0 0 0 0) 0 0) (Vl.mk (3 : UInt64) Nm.zero)]))) rfl rfl rfl (Ex.pickT rfl (congrArg Value.bool ht937) rfl) ?_
  refine WL.op (v := .bool (decide (diffAt ([At.mk (Ky.mk (2 : UInt8) (1 : UInt16) (Nm.mk (97 : UInt8) 0 0 0 0 0 0 0) 0 0) (Vl.mk (3 : UInt64) Nm.zero)]) ([] : List At) = [At.mk (Ky.mk (2 : UInt8) (1 : UInt16) (Nm.mk (97 : UInt8) 0 0 0 0 0 0 0) 0 0) (Vl.mk (3 : UInt64) Nm.zero)]))) rfl rfl rfl (Ex.move rfl rfl) ?_
  refine WL.on rfl rfl rfl (congrArg Value.bool ht943) ?_
  refine WL.op (v := .slice (some ⟨b930, 0, none⟩) 1 1) rfl rfl rfl (Ex.move rfl rfl) ?_
  refine WL.on rfl rfl rfl (congrArg Value.bool ht943) ?_
  refine WL.call rfl rfl rfl (enterS eg50 (args := [.slice (some ⟨b930, 0, none⟩) 1 1]) rfl rfl rfl rfl) (c_parts _ ([At.mk (Ky.mk (2 : UInt8) (1 : UInt16) (Nm.mk (97 : UInt8) 0 0 0 0 0 0 0) 0 0) (Vl.mk (3 : UInt64) Nm.zero)]) _ (hS.mem (.tail _ (.tail _ (.head _)))) (by first | omega | (simp; done) | (simp; omega))) ?_
  rintro e W947 ⟨v944, rs945, rfl, hB, hR946⟩
  have hPv944 : ((normAt ([At.mk (Ky.mk (2 : UInt8) (1 : UInt16) (Nm.mk (97 : UInt8) 0 0 0 0 0 0 0) 0 0) (Vl.mk (3 : UInt64) Nm.zero)])).map (fun a => [a])).flatten.length ≤ 1048576 := by rw [ones_flatten]; exact Nat.le_trans (normAt_length _) (by first | omega | (simp; done) | (simp; omega))
  have hQv944 : rs945.length ≤ 1048576 := by rw [hR946.len, List.length_map]; exact Nat.le_trans (normAt_length _) (by first | omega | (simp; done) | (simp; omega))
  replace hS := hS.newRows hB hR946
  refine ⟨_, rfl, ?_⟩
  refine WL.on rfl rfl rfl (congrArg Value.bool ht943) ?_
  have hl948 : rs945.length < 4611686018427387904 := (hS.mem (.tail _ (.head _)) : Sl _ _ _).lt
  refine WL.op (v := .int .i64 (rs945.length : Int)) rfl rfl rfl (Ex.lenSl (l := rs945) ⟨_, under42⟩ rfl rfl (hS.mem (.tail _ (.head _)))) ?_
  refine WL.on rfl rfl rfl (congrArg Value.bool ht943) ?_
  refine WL.op (v := .bool (decide ((rs945.length : Int) = 1))) rfl rfl rfl (Ex.eq rfl rfl rfl) ?_
  have ht949 : (decide ((rs945.length : Int) = 1)) = true := by rw [hR946.len]; kernel_rfl
  refine WL.op (v := .bool (decide ((rs945.length : Int) = 1))) rfl rfl rfl (Ex.pickT rfl (congrArg Value.bool ht943) rfl) ?_
  refine WL.op (v := .bool (decide ((rs945.length : Int) = 1))) rfl rfl rfl (Ex.move rfl rfl) ?_
  refine WL.on rfl rfl rfl (congrArg Value.bool ht949) ?_
  refine WL.op (v := .slice (some ⟨b930, 0, none⟩) 1 1) rfl rfl rfl (Ex.move rfl rfl) ?_
  refine WL.on rfl rfl rfl (congrArg Value.bool ht949) ?_
  refine WL.call rfl rfl rfl (enterS eg51 (args := [.slice (some ⟨b930, 0, none⟩) 1 1]) rfl rfl rfl rfl) (c_irreducible _ ([At.mk (Ky.mk (2 : UInt8) (1 : UInt16) (Nm.mk (97 : UInt8) 0 0 0 0 0 0 0) 0 0) (Vl.mk (3 : UInt64) Nm.zero)]) _ (hS.mem (.tail _ (.tail _ (.tail _ (.tail _ (.head _)))))) (by first | omega | (simp; done) | (simp; omega))) ?_
  rintro e W950 ⟨rfl, hB⟩
  replace hS := hS.ext hB
  refine ⟨_, rfl, ?_⟩
  have ht951 : (decide (((normAt ([At.mk (Ky.mk (2 : UInt8) (1 : UInt16) (Nm.mk (97 : UInt8) 0 0 0 0 0 0 0) 0 0) (Vl.mk (3 : UInt64) Nm.zero)])).length : Int) = 1)) = true := by kernel_rfl
  refine WL.op (v := .bool (decide (((normAt ([At.mk (Ky.mk (2 : UInt8) (1 : UInt16) (Nm.mk (97 : UInt8) 0 0 0 0 0 0 0) 0 0) (Vl.mk (3 : UInt64) Nm.zero)])).length : Int) = 1))) rfl rfl rfl (Ex.pickT rfl (congrArg Value.bool ht949) rfl) ?_
  refine WL.op (v := .bool (decide (((normAt ([At.mk (Ky.mk (2 : UInt8) (1 : UInt16) (Nm.mk (97 : UInt8) 0 0 0 0 0 0 0) 0 0) (Vl.mk (3 : UInt64) Nm.zero)])).length : Int) = 1))) rfl rfl rfl (Ex.assign rfl rfl) ?_
  refine WL.nil ?_
  refine then_normal ?_
  refine WP.ret ?_
  refine ?_
  refine rt1 (v := .bool (decide (((normAt ([At.mk (Ky.mk (2 : UInt8) (1 : UInt16) (Nm.mk (97 : UInt8) 0 0 0 0 0 0 0) 0 0) (Vl.mk (3 : UInt64) Nm.zero)])).length : Int) = 1))) rfl rfl ?_
  exact ⟨by rw [ht951], hS.bw⟩
set_option maxRecDepth 100000 in
set_option maxHeartbeats 4000000 in
theorem c_deltaLeast0 (s1 s2 s3 : Sv) (la lb lc : List At) (w : World) (ha : Sl w s1.v la) (hb : Sl w s2.v lb) (hc : Sl w s3.v lc) :
    Calls Try.prog 6 #[s1.v, s2.v, s3.v] w fun e w' => e = .returned (.bool true) ∧ Bw w w' := by
  have hS := St.begin (w := w) (pins := pinSl s1.v la :: pinSl s2.v lb :: pinSl s3.v lc :: []) ⟨ha, hb, hc, trivial⟩
  refine enter (n := 103) Try.func6 rfl rfl (Nat.le_of_ble_eq_true rfl) (l := [(0, s1.v), (1, s2.v), (2, s3.v)]) rfl ?_
  refine WP.seq ?_
  refine WP.region ?_
  refine WL.op (v := .bool false) rfl rfl rfl (Ex.assign rfl rfl) ?_
  refine WL.nil ?_
  refine then_normal ?_
  refine WP.seq ?_
  refine WP.seq ?_
  refine WP.region ?_
  refine WL.op (v := s1.v) rfl rfl rfl (Ex.move rfl rfl) ?_
  have hl952 : la.length < 4611686018427387904 := (hS.mem (.head _) : Sl _ _ _).lt
  refine WL.op (v := .int .i64 (la.length : Int)) rfl rfl rfl (Ex.lenSl (l := la) ⟨_, under22⟩ rfl rfl (hS.mem (.head _))) ?_
  refine WL.op (v := .bool (decide (40 < (la.length : Int)))) rfl rfl rfl (Ex.gt rfl rfl rfl) ?_
  refine WL.op (v := .bool (decide (40 < (la.length : Int)))) rfl rfl rfl (Ex.move rfl rfl) ?_
  rcases Bool.eq_false_or_eq_true (decide (40 < (la.length : Int))) with hg953 | hg953
  ·
    have hg953' : 40 < (la.length : Int) := by simpa using hg953
    refine WL.off (b' := true) rfl rfl rfl rfl rfl rfl (congrArg Value.bool hg953) rfl ?_
    refine WL.off (b' := true) rfl rfl rfl rfl rfl rfl (congrArg Value.bool hg953) rfl ?_
    refine WL.off (b' := true) rfl rfl rfl rfl rfl rfl (congrArg Value.bool hg953) rfl ?_
    refine WL.op (v := .bool true) rfl rfl rfl (Ex.pickT rfl (congrArg Value.bool hg953) rfl) ?_
    refine WL.op (v := .bool true) rfl rfl rfl (Ex.move rfl rfl) ?_
    refine WL.off (b' := true) rfl rfl rfl rfl rfl rfl rfl rfl ?_
    refine WL.off (b' := true) rfl rfl rfl rfl rfl rfl rfl rfl ?_
    refine WL.off (b' := true) rfl rfl rfl rfl rfl rfl rfl rfl ?_
    refine WL.op (v := .bool true) rfl rfl rfl (Ex.pickT rfl rfl rfl) ?_
    refine WL.nil ?_
    refine then_normal ?_
    refine WP.condT rfl ?_
    refine WP.seq ?_
    refine WP.region ?_
    refine WL.call rfl rfl rfl (enterS eg33 (args := []) rfl rfl rfl rfl) (c_alive11 _) ?_
    rintro e W954 ⟨rfl, hB⟩
    replace hS := hS.ext hB
    refine ⟨_, rfl, ?_⟩
    refine WL.op (v := .bool true) rfl rfl rfl (Ex.assign rfl rfl) ?_
    refine WL.nil ?_
    refine then_normal ?_
    refine WP.ret ?_
    refine then_ret (?_)
    refine rt1 (v := .bool true) rfl rfl ?_
    exact ⟨rfl, hS.bw⟩
  ·
    have hg953' : ¬ (40 < (la.length : Int)) := by simpa using hg953
    refine WL.on rfl rfl rfl (congrArg Value.bool hg953) ?_
    refine WL.op (v := s2.v) rfl rfl rfl (Ex.move rfl rfl) ?_
    refine WL.on rfl rfl rfl (congrArg Value.bool hg953) ?_
    have hl955 : lb.length < 4611686018427387904 := (hS.mem (.tail _ (.head _)) : Sl _ _ _).lt
    refine WL.op (v := .int .i64 (lb.length : Int)) rfl rfl rfl (Ex.lenSl (l := lb) ⟨_, under22⟩ rfl rfl (hS.mem (.tail _ (.head _)))) ?_
    refine WL.on rfl rfl rfl (congrArg Value.bool hg953) ?_
    refine WL.op (v := .bool (decide (40 < (lb.length : Int)))) rfl rfl rfl (Ex.gt rfl rfl rfl) ?_
    refine WL.op (v := .bool (decide (40 < (lb.length : Int)))) rfl rfl rfl (Ex.pickF rfl (congrArg Value.bool hg953) rfl) ?_
    refine WL.op (v := .bool (decide (40 < (lb.length : Int)))) rfl rfl rfl (Ex.move rfl rfl) ?_
    rcases Bool.eq_false_or_eq_true (decide (40 < (lb.length : Int))) with hg956 | hg956
    ·
      have hg956' : 40 < (lb.length : Int) := by simpa using hg956
      refine WL.off (b' := true) rfl rfl rfl rfl rfl rfl (congrArg Value.bool hg956) rfl ?_
      refine WL.off (b' := true) rfl rfl rfl rfl rfl rfl (congrArg Value.bool hg956) rfl ?_
      refine WL.off (b' := true) rfl rfl rfl rfl rfl rfl (congrArg Value.bool hg956) rfl ?_
      refine WL.op (v := .bool true) rfl rfl rfl (Ex.pickT rfl (congrArg Value.bool hg956) rfl) ?_
      refine WL.nil ?_
      refine then_normal ?_
      refine WP.condT rfl ?_
      refine WP.seq ?_
      refine WP.region ?_
      refine WL.call rfl rfl rfl (enterS eg33 (args := []) rfl rfl rfl rfl) (c_alive11 _) ?_
      rintro e W957 ⟨rfl, hB⟩
      replace hS := hS.ext hB
      refine ⟨_, rfl, ?_⟩
      refine WL.op (v := .bool true) rfl rfl rfl (Ex.assign rfl rfl) ?_
      refine WL.nil ?_
      refine then_normal ?_
      refine WP.ret ?_
      refine then_ret (?_)
      refine rt1 (v := .bool true) rfl rfl ?_
      exact ⟨rfl, hS.bw⟩
    ·
      have hg956' : ¬ (40 < (lb.length : Int)) := by simpa using hg956
      refine WL.on rfl rfl rfl (congrArg Value.bool hg956) ?_
      refine WL.op (v := s3.v) rfl rfl rfl (Ex.move rfl rfl) ?_
      refine WL.on rfl rfl rfl (congrArg Value.bool hg956) ?_
      have hl958 : lc.length < 4611686018427387904 := (hS.mem (.tail _ (.tail _ (.head _))) : Sl _ _ _).lt
      refine WL.op (v := .int .i64 (lc.length : Int)) rfl rfl rfl (Ex.lenSl (l := lc) ⟨_, under22⟩ rfl rfl (hS.mem (.tail _ (.tail _ (.head _))))) ?_
      refine WL.on rfl rfl rfl (congrArg Value.bool hg956) ?_
      refine WL.op (v := .bool (decide (40 < (lc.length : Int)))) rfl rfl rfl (Ex.gt rfl rfl rfl) ?_
      refine WL.op (v := .bool (decide (40 < (lc.length : Int)))) rfl rfl rfl (Ex.pickF rfl (congrArg Value.bool hg956) rfl) ?_
      refine WL.nil ?_
      refine then_normal ?_
      refine WP.cond (b := decide (40 < (lc.length : Int))) rfl (fun hc959 => ?_) (fun hc959 => ?_)
      ·
        have hc959' : 40 < (lc.length : Int) := by simpa using hc959
        refine WP.seq ?_
        refine WP.region ?_
        refine WL.call rfl rfl rfl (enterS eg33 (args := []) rfl rfl rfl rfl) (c_alive11 _) ?_
        rintro e W960 ⟨rfl, hB⟩
        replace hS := hS.ext hB
        refine ⟨_, rfl, ?_⟩
        refine WL.op (v := .bool true) rfl rfl rfl (Ex.assign rfl rfl) ?_
        refine WL.nil ?_
        refine then_normal ?_
        refine WP.ret ?_
        refine then_ret (?_)
        refine rt1 (v := .bool true) rfl rfl ?_
        exact ⟨rfl, hS.bw⟩
      ·
        have hc959' : ¬ (40 < (lc.length : Int)) := by simpa using hc959
        refine WP.skip ?_
        refine then_normal ?_
        refine WP.seq ?_
        refine WP.region ?_
        refine WL.op (v := s1.v) rfl rfl rfl (Ex.move rfl rfl) ?_
        refine WL.op (v := s2.v) rfl rfl rfl (Ex.move rfl rfl) ?_
        refine WL.call rfl rfl rfl (enterS eg16 (args := [s1.v, s2.v]) rfl rfl rfl rfl) (c_join _ _ la lb _ (hS.mem (.head _)) (hS.mem (.tail _ (.head _))) (by first | omega | (simp; done) | (simp; omega))) ?_
        rintro e W963 ⟨v961, rfl, hB, hv', hn'⟩
        have hN962 : New w v961 := fun b hb => Nat.le_trans hS.bw.size (hn' b hb)
        replace hS := hS.newPin hB (pinSl v961 (normAt (la ++ lb))) hv' hn'
        refine ⟨_, rfl, ?_⟩
        have hq964 := normAt_len2 la lb
        refine WL.op (v := s1.v) rfl rfl rfl (Ex.move rfl rfl) ?_
        refine WL.op (v := s2.v) rfl rfl rfl (Ex.move rfl rfl) ?_
        refine WL.call rfl rfl rfl (enterS eg34 (args := [s1.v, s2.v]) rfl rfl rfl rfl) (c_diff _ _ la lb _ (hS.mem (.tail _ (.head _))) (hS.mem (.tail _ (.tail _ (.head _)))) (by first | omega | (simp; done) | (simp; omega)) (by first | omega | (simp; done) | (simp; omega))) ?_
        rintro e W967 ⟨v965, rfl, hB, hv', hn'⟩
        have hN966 : New w v965 := fun b hb => Nat.le_trans hS.bw.size (hn' b hb)
        replace hS := hS.newPin hB (pinSl v965 (diffAt la lb)) hv' hn'
        refine ⟨_, rfl, ?_⟩
        have hq968 := diff_length la lb
        refine WL.op (v := v961) rfl rfl rfl (Ex.assign rfl rfl) ?_
        refine WL.op (v := v965) rfl rfl rfl (Ex.assign rfl rfl) ?_
        refine WL.nil ?_
        refine then_normal ?_
        refine WP.seq ?_
        refine WP.seq ?_
        refine WP.region ?_
        refine WL.op (v := v965) rfl rfl rfl (Ex.move rfl rfl) ?_
        refine WL.op (v := s2.v) rfl rfl rfl (Ex.move rfl rfl) ?_
        refine WL.call rfl rfl rfl (enterS eg16 (args := [v965, s2.v]) rfl rfl rfl rfl) (c_join _ _ (diffAt la lb) lb _ (hS.mem (.head _)) (hS.mem (.tail _ (.tail _ (.tail _ (.head _))))) (by first | omega | (simp; done) | (simp; omega))) ?_
        rintro e W971 ⟨v969, rfl, hB, hv', hn'⟩
        have hN970 : New w v969 := fun b hb => Nat.le_trans hS.bw.size (hn' b hb)
        replace hS := hS.newPin hB (pinSl v969 (normAt (diffAt la lb ++ lb))) hv' hn'
        refine ⟨_, rfl, ?_⟩
        have hq972 := normAt_len2 (diffAt la lb) lb
        refine WL.op (v := v961) rfl rfl rfl (Ex.move rfl rfl) ?_
        refine WL.call rfl rfl rfl (enterS eg15 (args := [v969, v961]) rfl rfl rfl rfl) (c_rows _ _ (normAt (diffAt la lb ++ lb)) (normAt (la ++ lb)) _ (hS.mem (.head _)) (hS.mem (.tail _ (.tail _ (.head _))))) ?_
        rintro e W973 ⟨rfl, hB⟩
        replace hS := hS.ext hB
        refine ⟨_, rfl, ?_⟩
        have ht974 : (decide (normAt (diffAt la lb ++ lb) = normAt (la ++ lb))) = true := decide_eq_true (dl1 la lb)
        refine WL.op (v := .bool (!(decide (normAt (diffAt la lb ++ lb) = normAt (la ++ lb))))) rfl rfl rfl (Ex.not rfl rfl) ?_
        refine WL.op (v := .bool (!(decide (normAt (diffAt la lb ++ lb) = normAt (la ++ lb))))) rfl rfl rfl (Ex.move rfl rfl) ?_
        refine WL.on rfl rfl rfl (congrArg (fun b => Value.bool (!b)) ht974) ?_
        refine WL.op (v := v965) rfl rfl rfl (Ex.move rfl rfl) ?_
        refine WL.on rfl rfl rfl (congrArg (fun b => Value.bool (!b)) ht974) ?_
        refine WL.op (v := s1.v) rfl rfl rfl (Ex.move rfl rfl) ?_
        refine WL.on rfl rfl rfl (congrArg (fun b => Value.bool (!b)) ht974) ?_
        refine WL.call rfl rfl rfl (enterS eg20 (args := [v965, s1.v]) rfl rfl rfl rfl) (c_leq _ _ (diffAt la lb) la _ (hS.mem (.tail _ (.head _))) (hS.mem (.tail _ (.tail _ (.tail _ (.head _))))) (by first | omega | (simp; done) | (simp; omega)) (by first | omega | (simp; done) | (simp; omega))) ?_
        rintro e W975 ⟨rfl, hB⟩
        replace hS := hS.ext hB
        refine ⟨_, rfl, ?_⟩
        have ht976 : (leqAt (diffAt la lb) la) = true := dl2 la lb
        refine WL.on rfl rfl rfl (congrArg (fun b => Value.bool (!b)) ht974) ?_
        refine WL.op (v := .bool (!(leqAt (diffAt la lb) la))) rfl rfl rfl (Ex.not rfl rfl) ?_
        refine WL.op (v := .bool (!(leqAt (diffAt la lb) la))) rfl rfl rfl (Ex.pickF rfl (congrArg (fun b => Value.bool (!b)) ht974) rfl) ?_
        refine WL.op (v := .bool (!(leqAt (diffAt la lb) la))) rfl rfl rfl (Ex.move rfl rfl) ?_
        refine WL.on rfl rfl rfl (congrArg (fun b => Value.bool (!b)) ht976) ?_
        refine WL.op (v := v965) rfl rfl rfl (Ex.move rfl rfl) ?_
        refine WL.on rfl rfl rfl (congrArg (fun b => Value.bool (!b)) ht976) ?_
        refine WL.op (v := v961) rfl rfl rfl (Ex.move rfl rfl) ?_
        refine WL.on rfl rfl rfl (congrArg (fun b => Value.bool (!b)) ht976) ?_
        refine WL.call rfl rfl rfl (enterS eg34 (args := [v965, v961]) rfl rfl rfl rfl) (c_diff _ _ (diffAt la lb) (normAt (la ++ lb)) _ (hS.mem (.tail _ (.head _))) (hS.mem (.tail _ (.tail _ (.head _)))) (by first | omega | (simp; done) | (simp; omega)) (by first | omega | (simp; done) | (simp; omega))) ?_
        rintro e W979 ⟨v977, rfl, hB, hv', hn'⟩
        have hN978 : New w v977 := fun b hb => Nat.le_trans hS.bw.size (hn' b hb)
        replace hS := hS.newPin hB (pinSl v977 (diffAt (diffAt la lb) (normAt (la ++ lb)))) hv' hn'
        refine ⟨_, rfl, ?_⟩
        have hq980 := diff_length (diffAt la lb) (normAt (la ++ lb))
        refine WL.on rfl rfl rfl (congrArg (fun b => Value.bool (!b)) ht976) ?_
        have hl981 : (diffAt (diffAt la lb) (normAt (la ++ lb))).length < 4611686018427387904 := (hS.mem (.head _) : Sl _ _ _).lt
        refine WL.op (v := .int .i64 (((diffAt (diffAt la lb) (normAt (la ++ lb))).length : Nat) : Int)) rfl rfl rfl (Ex.lenSl (l := diffAt (diffAt la lb) (normAt (la ++ lb))) ⟨_, under22⟩ rfl rfl (hS.mem (.head _))) ?_
        refine WL.on rfl rfl rfl (congrArg (fun b => Value.bool (!b)) ht976) ?_
        refine WL.op (v := .bool (!decide ((((diffAt (diffAt la lb) (normAt (la ++ lb))).length : Nat) : Int) = 0))) rfl rfl rfl (Ex.ne rfl rfl rfl) ?_
        have ht982 : (!decide ((((diffAt (diffAt la lb) (normAt (la ++ lb))).length : Nat) : Int) = 0)) = false := by rw [dl3]; rfl
        refine WL.op (v := .bool (!decide ((((diffAt (diffAt la lb) (normAt (la ++ lb))).length : Nat) : Int) = 0))) rfl rfl rfl (Ex.pickF rfl (congrArg (fun b => Value.bool (!b)) ht976) rfl) ?_
        refine WL.nil ?_
        refine then_normal ?_
        refine WP.condF (congrArg Value.bool ht982) ?_
        refine WP.skip ?_
        refine then_normal ?_
        refine WP.cut (fun a W => ∃ (l0 : Fr), a = fr 103 [] ([(0, s1.v), (1, s2.v), (2, s3.v)] ++ l0) ∧ St w ([]) (pinSl v977 (diffAt (diffAt la lb) (normAt (la ++ lb))) :: pinSl v969 (normAt (diffAt la lb ++ lb)) :: pinSl v965 (diffAt la lb) :: pinSl v961 (normAt (la ++ lb)) :: pinSl s1.v la :: pinSl s2.v lb :: pinSl s3.v lc :: []) W) ?_ ?_
        ·
          refine WP.seq ?_
          refine WP.region ?_
          refine WL.op (v := s3.v) rfl rfl rfl (Ex.move rfl rfl) ?_
          refine WL.op (v := s2.v) rfl rfl rfl (Ex.move rfl rfl) ?_
          refine WL.call rfl rfl rfl (enterS eg16 (args := [s3.v, s2.v]) rfl rfl rfl rfl) (c_join _ _ lc lb _ (hS.mem (.tail _ (.tail _ (.tail _ (.tail _ (.tail _ (.tail _ (.head _)))))))) (hS.mem (.tail _ (.tail _ (.tail _ (.tail _ (.tail _ (.head _))))))) (by first | omega | (simp; done) | (simp; omega))) ?_
          rintro e W985 ⟨v983, rfl, hB, hv', hn'⟩
          have hN984 : New w v983 := fun b hb => Nat.le_trans hS.bw.size (hn' b hb)
          replace hS := hS.newPin hB (pinSl v983 (normAt (lc ++ lb))) hv' hn'
          refine ⟨_, rfl, ?_⟩
          have hq986 := normAt_len2 lc lb
          refine WL.op (v := v961) rfl rfl rfl (Ex.move rfl rfl) ?_
          refine WL.call rfl rfl rfl (enterS eg15 (args := [v983, v961]) rfl rfl rfl rfl) (c_rows _ _ (normAt (lc ++ lb)) (normAt (la ++ lb)) _ (hS.mem (.head _)) (hS.mem (.tail _ (.tail _ (.tail _ (.tail _ (.head _))))))) ?_
          rintro e W987 ⟨rfl, hB⟩
          replace hS := hS.ext hB
          refine ⟨_, rfl, ?_⟩
          refine WL.op (v := .bool (decide (normAt (lc ++ lb) = normAt (la ++ lb)))) rfl rfl rfl (Ex.move rfl rfl) ?_
          rcases Bool.eq_false_or_eq_true (decide (normAt (lc ++ lb) = normAt (la ++ lb))) with hg989 | hg989
          ·
            have hg989' : normAt (lc ++ lb) = normAt (la ++ lb) := by simpa using hg989
            refine WL.on rfl rfl rfl (congrArg Value.bool hg989) ?_
            refine WL.op (v := v965) rfl rfl rfl (Ex.move rfl rfl) ?_
            refine WL.on rfl rfl rfl (congrArg Value.bool hg989) ?_
            refine WL.op (v := s3.v) rfl rfl rfl (Ex.move rfl rfl) ?_
            refine WL.on rfl rfl rfl (congrArg Value.bool hg989) ?_
            refine WL.call rfl rfl rfl (enterS eg20 (args := [v965, s3.v]) rfl rfl rfl rfl) (c_leq _ _ (diffAt la lb) lc _ (hS.mem (.tail _ (.tail _ (.tail _ (.head _))))) (hS.mem (.tail _ (.tail _ (.tail _ (.tail _ (.tail _ (.tail _ (.tail _ (.head _))))))))) (by first | omega | (simp; done) | (simp; omega)) (by first | omega | (simp; done) | (simp; omega))) ?_
            rintro e W990 ⟨rfl, hB⟩
            replace hS := hS.ext hB
            refine ⟨_, rfl, ?_⟩
            have ht991 : (leqAt (diffAt la lb) lc) = true := dl4 la lb lc (of_decide_eq_true hg989)
            refine WL.on rfl rfl rfl (congrArg Value.bool hg989) ?_
            refine WL.op (v := .bool (!(leqAt (diffAt la lb) lc))) rfl rfl rfl (Ex.not rfl rfl) ?_
            refine WL.op (v := .bool (!(leqAt (diffAt la lb) lc))) rfl rfl rfl (Ex.pickT rfl (congrArg Value.bool hg989) rfl) ?_
            refine WL.nil ?_
            refine then_normal ?_
            refine WP.condF (congrArg (fun b => Value.bool (!b)) ht991) ?_
            refine WP.skip ?_
            refine then_normal ?_
            exact ⟨_, fr_keep ⟨rfl, rfl, rfl, trivial⟩, hS.drop 0 1⟩
          ·
            have hg989' : ¬ (normAt (lc ++ lb) = normAt (la ++ lb)) := by simpa using hg989
            refine WL.off (b' := false) rfl rfl rfl rfl rfl rfl (congrArg Value.bool hg989) rfl ?_
            refine WL.off (b' := false) rfl rfl rfl rfl rfl rfl (congrArg Value.bool hg989) rfl ?_
            refine WL.off (b' := false) rfl rfl rfl rfl rfl rfl (congrArg Value.bool hg989) rfl ?_
            refine WL.off (b' := false) rfl rfl rfl rfl rfl rfl (congrArg Value.bool hg989) rfl ?_
            refine WL.op (v := .bool false) rfl rfl rfl (Ex.pickF rfl (congrArg Value.bool hg989) rfl) ?_
            refine WL.nil ?_
            refine then_normal ?_
            refine WP.condF rfl ?_
            refine WP.skip ?_
            refine then_normal ?_
            exact ⟨_, fr_keep ⟨rfl, rfl, rfl, trivial⟩, hS.drop 0 1⟩
        ·
          rintro a W992 ⟨l0, rfl, hS⟩
          refine WP.seq ?_
          refine WP.region ?_
          refine WL.op (v := s1.v) rfl rfl rfl (Ex.move rfl rfl) ?_
          refine WL.op (v := s2.v) rfl rfl rfl (Ex.move rfl rfl) ?_
          refine WL.op (v := s3.v) rfl rfl rfl (Ex.move rfl rfl) ?_
          refine WL.buildSlice (ps := [(0, s1.v), (1, s2.v), (2, s3.v)]) (C := #[s1.v, s2.v, s3.v]) (E := 22) rfl (fun _ => by kernel_rfl) hS rfl rfl rfl rfl (fun b993 W994 hS => ?_)
          have hO995 : OutG (α := Sv) (.slice (some ⟨b993, 0, none⟩) 3 3) (some (b993, .cells #[s1.v, s2.v, s3.v] 22)) 22 [s1, s2, s3] := .inr ⟨b993, 3, #[s1.v, s2.v, s3.v], rfl, rfl, Nat.le_refl _, by decide, rfl, rfl⟩
          refine WL.op (v := .slice (some ⟨b993, 0, none⟩) 3 3) rfl rfl rfl (Ex.assign rfl rfl) ?_
          refine WL.nil ?_
          refine then_normal ?_
          refine WP.seq ?_
          refine WP.region ?_
          refine WL.op (v := .slice (some ⟨b993, 0, none⟩) 3 3) rfl rfl rfl (Ex.move rfl rfl) ?_
          have hsl996 : Sl W994 (.slice (some ⟨b993, 0, none⟩) 3 3) ([s1, s2, s3]) := (OutG.slM hO995 hS (fun p hp => by first | (rw [hp]; simp; done) | (cases hp; simp)) (by first | omega | (simp; done) | (simp; omega))).1
          replace hS := (((hS.pinSSnil).ssSnoc (s := s1) (li := la) (.head _) (.tail _ (.tail _ (.tail _ (.tail _ (.tail _ (.head _)))))) rfl).ssSnoc (s := s2) (li := lb) (.head _) (.tail _ (.tail _ (.tail _ (.tail _ (.tail _ (.tail _ (.tail _ (.head _)))))))) rfl).ssSnoc (s := s3) (li := lc) (.head _) (.tail _ (.tail _ (.tail _ (.tail _ (.tail _ (.tail _ (.tail _ (.tail _ (.tail _ (.head _)))))))))) rfl
          refine WL.call rfl rfl rfl (enterS eg35 (args := [.slice (some ⟨b993, 0, none⟩) 3 3]) rfl rfl rfl rfl) (c_needless _ ([s1, s2, s3]) ([la, lb, lc]) _ hsl996 (hS.mem (.head _)) rfl (hO995.capd) (by simp) (by simp; omega)) ?_
          rintro e W999 ⟨v997, rfl, hB, hv', hn998⟩
          replace hsl996 := hsl996.bw hB
          replace hS := hS.newPin hB (pinSl v997 (needF ([la, lb, lc]) ([la, lb, lc]).length).1) hv' hn998
          refine ⟨_, rfl, ?_⟩
          refine WL.op (v := v997) rfl rfl rfl (Ex.assign rfl rfl) ?_
          refine WL.nil ?_
          refine then_normal ?_
          refine WP.seq ?_
          refine WP.seq ?_
          refine WP.region ?_
          refine WL.op (v := .int .i64 0) rfl rfl rfl (Ex.assign rfl rfl) ?_
          refine WL.nil ?_
          refine then_normal ?_
          refine WP.block ?_
          replace hS := hS.again (.tail _ (.head _))
          refine WP.loop (fun (μ : Nat) a W => ∃ (k : Nat), ∃ (el : Option (Nat × Obj)), ∃ (dl : List Sv), ∃ (lss : List (List At)), ∃ (l0 : Fr), a = fr 103 [] ([(0, s1.v), (1, s2.v), (2, s3.v), (9, .slice (some ⟨b993, 0, none⟩) 3 3), (10, v997), (11, .int .i64 (k : Int))] ++ l0) ∧ μ = (needF ([la, lb, lc]) ([la, lb, lc]).length).1.length - k ∧ k ≤ (needF ([la, lb, lc]) ([la, lb, lc]).length).1.length ∧ St w (el.toList) (pinSS dl lss :: pinSl v997 ((needF ([la, lb, lc]) ([la, lb, lc]).length).1) :: pinSS [s1, s2, s3] [la, lb, lc] :: pinSS (([] ++ [s1]) ++ [s2]) (([] ++ [la]) ++ [lb]) :: pinSS ([] ++ [s1]) ([] ++ [la]) :: pinSS [] [] :: pinSl v977 (diffAt (diffAt la lb) (normAt (la ++ lb))) :: pinSl v969 (normAt (diffAt la lb ++ lb)) :: pinSl v965 (diffAt la lb) :: pinSl v961 (normAt (la ++ lb)) :: pinSl s1.v la :: pinSl s2.v lb :: pinSl s3.v lc :: []) W ∧ (OutG (.slice (some ⟨b993, 0, none⟩) 3 3) el 22 dl) ∧ (lss = setsAt [la, lb, lc] ((needF ([la, lb, lc]) ([la, lb, lc]).length).1.take k)) ∧ (dl.length = lss.length) ∧ (dl.length = 3) ∧ (lss.flatten.length ≤ 1048576)) id _ ⟨0, (some (b993, .cells #[s1.v, s2.v, s3.v] 22)), [s1, s2, s3], [la, lb, lc], _, fr_keep ⟨rfl, rfl, rfl, rfl, rfl, rfl, trivial⟩, rfl, by omega, hS, hO995, rfl, rfl, rfl, (by simp; omega)⟩ ?_
          rintro μ a W1000 ⟨k, el, dl, lss, l0, rfl, rfl, hk, hS, hOl, hst, hlen2, hdl, hl3⟩
          refine WP.seq ?_
          refine WP.seq ?_
          refine WP.region ?_
          refine WL.op (v := .int .i64 (k : Int)) rfl rfl rfl (Ex.move rfl rfl) ?_
          refine WL.op (v := v997) rfl rfl rfl (Ex.move rfl rfl) ?_
          have hl1001 : ((needF ([la, lb, lc]) ([la, lb, lc]).length).1).length < 4611686018427387904 := (hS.mem (.tail _ (.head _)) : Sl _ _ _).lt
          refine WL.op (v := .int .i64 ((((needF ([la, lb, lc]) ([la, lb, lc]).length).1).length : Nat) : Int)) rfl rfl rfl (Ex.lenSl (l := (needF ([la, lb, lc]) ([la, lb, lc]).length).1) ⟨_, under43⟩ rfl rfl (hS.mem (.tail _ (.head _)))) ?_
          refine WL.op (v := .bool (decide ((k : Int) < ((((needF ([la, lb, lc]) ([la, lb, lc]).length).1).length : Nat) : Int)))) rfl rfl rfl (Ex.lt rfl rfl rfl) ?_
          refine WL.nil ?_
          refine then_normal ?_
          refine WP.cond (b := decide ((k : Int) < ((((needF ([la, lb, lc]) ([la, lb, lc]).length).1).length : Nat) : Int))) rfl (fun hc1002 => ?_) (fun hc1002 => ?_)
          ·
            have hc1002' : (k : Int) < ((((needF ([la, lb, lc]) ([la, lb, lc]).length).1).length : Nat) : Int) := by simpa using hc1002
            refine WP.skip ?_
            refine then_normal ?_
            refine WP.seq ?_
            refine WP.block ?_
            refine WP.seq ?_
            refine WP.seq ?_
            refine WP.region ?_
            refine WL.op (v := v997) rfl rfl rfl (Ex.move rfl rfl) ?_
            refine WL.op (v := .int .i64 (k : Int)) rfl rfl rfl (Ex.move rfl rfl) ?_
            obtain ⟨b1003, p1004, x1005, hx1006, hi1007, hS⟩ := hS.elem (α := Int) (k := k) (.tail _ (.head _)) under43 tySz3 (by omega)
            refine WL.op (v := .pointer (some ⟨b1003, p1004, none⟩)) rfl rfl rfl (Ex.indexC hi1007 rfl rfl rfl) ?_
            refine WL.op (v := .int .i64 x1005) rfl rfl rfl (Ex.load1 tyOne3 rfl rfl (Reads.sub (cs := [.int .i64 x1005]) (hS.get 0 rfl) 0 (ds := [.int .i64 x1005]) rfl)) ?_
            refine WL.op (v := .bool (decide (x1005 < 0))) rfl rfl rfl (Ex.lt rfl rfl rfl) ?_
            refine WL.op (v := .bool (decide (x1005 < 0))) rfl rfl rfl (Ex.move rfl rfl) ?_
            rcases Bool.eq_false_or_eq_true (decide (x1005 < 0)) with hg1008 | hg1008
            ·
              have hg1008' : x1005 < 0 := by simpa using hg1008
              refine WL.off (b' := true) rfl rfl rfl rfl rfl rfl (congrArg Value.bool hg1008) rfl ?_
              refine WL.off (b' := true) rfl rfl rfl rfl rfl rfl (congrArg Value.bool hg1008) rfl ?_
              refine WL.off (b' := true) rfl rfl rfl rfl rfl rfl (congrArg Value.bool hg1008) rfl ?_
              refine WL.off (b' := true) rfl rfl rfl rfl rfl rfl (congrArg Value.bool hg1008) rfl ?_
              refine WL.off (b' := true) rfl rfl rfl rfl rfl rfl (congrArg Value.bool hg1008) rfl ?_
              refine WL.op (v := .bool true) rfl rfl rfl (Ex.pickT rfl (congrArg Value.bool hg1008) rfl) ?_
              refine WL.nil ?_
              refine then_normal ?_
              refine WP.condT rfl ?_
              refine WP.seq ?_
              refine WP.region ?_
              refine WL.op (v := .bool false) rfl rfl rfl (Ex.assign rfl rfl) ?_
              refine WL.nil ?_
              refine then_normal ?_
              refine WP.ret ?_
              refine then_ret (inBlock_ret (then_ret (then_ret (inBlock_ret (then_ret (?_))))))
              refine rt1 (v := .bool false) rfl rfl ?_
              obtain ⟨n1, hn1, hxn1⟩ := (needF_idx [la, lb, lc] _).2 x1005 (List.mem_of_getElem? hx1006)
              have hn4 : n1 < 3 := hn1
              exfalso; omega
            ·
              have hg1008' : ¬ (x1005 < 0) := by simpa using hg1008
              refine WL.on rfl rfl rfl (congrArg Value.bool hg1008) ?_
              refine WL.op (v := v997) rfl rfl rfl (Ex.move rfl rfl) ?_
              refine WL.on rfl rfl rfl (congrArg Value.bool hg1008) ?_
              refine WL.op (v := .int .i64 (k : Int)) rfl rfl rfl (Ex.move rfl rfl) ?_
              refine WL.on rfl rfl rfl (congrArg Value.bool hg1008) ?_
              refine WL.op (v := .pointer (some ⟨b1003, p1004, none⟩)) rfl rfl rfl (Ex.indexC hi1007 rfl rfl rfl) ?_
              refine WL.on rfl rfl rfl (congrArg Value.bool hg1008) ?_
              refine WL.op (v := .int .i64 x1005) rfl rfl rfl (Ex.load1 tyOne3 rfl rfl (Reads.sub (cs := [.int .i64 x1005]) (hS.get 0 rfl) 0 (ds := [.int .i64 x1005]) rfl)) ?_
              refine WL.on rfl rfl rfl (congrArg Value.bool hg1008) ?_
              refine WL.op (v := .bool (decide (2 < x1005))) rfl rfl rfl (Ex.gt rfl rfl rfl) ?_
              obtain ⟨n0, hn0, hxn⟩ := (needF_idx [la, lb, lc] _).2 x1005 (List.mem_of_getElem? hx1006)
              have hn3 : n0 < 3 := hn0
              have hxe : ((x1005.toNat : Nat) : Int) = x1005 := by omega
              refine WL.op (v := .bool (decide (2 < x1005))) rfl rfl rfl (Ex.pickF rfl (congrArg Value.bool hg1008) rfl) ?_
              refine WL.nil ?_
              refine then_normal ?_
              refine WP.cond (b := decide (2 < x1005)) rfl (fun hc1009 => ?_) (fun hc1009 => ?_)
              ·
                have hc1009' : 2 < x1005 := by simpa using hc1009
                refine WP.seq ?_
                refine WP.region ?_
                refine WL.op (v := .bool false) rfl rfl rfl (Ex.assign rfl rfl) ?_
                refine WL.nil ?_
                refine then_normal ?_
                refine WP.ret ?_
                refine then_ret (inBlock_ret (then_ret (then_ret (inBlock_ret (then_ret (?_))))))
                refine rt1 (v := .bool false) rfl rfl ?_
                obtain ⟨n1, hn1, hxn1⟩ := (needF_idx [la, lb, lc] _).2 x1005 (List.mem_of_getElem? hx1006)
                have hn4 : n1 < 3 := hn1
                exfalso; omega
              ·
                have hc1009' : ¬ (2 < x1005) := by simpa using hc1009
                refine WP.skip ?_
                refine then_normal ?_
                refine WP.region ?_
                refine WL.op (v := .slice (some ⟨b993, 0, none⟩) 3 3) rfl rfl rfl (Ex.move rfl rfl) ?_
                refine WL.op (v := v997) rfl rfl rfl (Ex.move rfl rfl) ?_
                refine WL.op (v := .int .i64 (k : Int)) rfl rfl rfl (Ex.move rfl rfl) ?_
                refine WL.op (v := .pointer (some ⟨b1003, p1004, none⟩)) rfl rfl rfl (Ex.indexC hi1007 rfl rfl rfl) ?_
                refine WL.op (v := .int .i64 x1005) rfl rfl rfl (Ex.load1 tyOne3 rfl rfl (Reads.sub (cs := [.int .i64 x1005]) (hS.get 0 rfl) 0 (ds := [.int .i64 x1005]) rfl)) ?_
                obtain ⟨g1010, og1011, rfl, hi1012⟩ := OutG.spot (i := x1005.toNat) hOl under42 tySz22 (by omega)
                rw [hxe] at hi1012
                refine WL.op (v := .pointer (some ⟨g1010, x1005.toNat * Enc.sz Sv, none⟩)) rfl rfl rfl (Ex.indexC hi1012 rfl rfl rfl) ?_
                refine WL.storeOut (α := Sv) (a := (Sv.mk none 0 0)) (i := x1005.toNat) hOl tySz22 (by omega) [] hS rfl rfl rfl rfl rfl (fun og1015 W1014 hO1016 hS => ?_)
                refine WL.nil ?_
                refine inBlock_normal ?_
                refine then_normal ?_
                refine WP.region ?_
                refine WL.op (v := .int .i64 (k : Int)) rfl rfl rfl (Ex.move rfl rfl) ?_
                refine WL.op (v := .int .i64 ((k + 1 : Nat) : Int)) rfl rfl rfl (Ex.add rfl rfl rfl (wrap_succ (by omega))) ?_
                refine WL.op (v := .int .i64 ((k + 1 : Nat) : Int)) rfl rfl rfl (Ex.assign rfl rfl) ?_
                refine WL.nil ?_
                refine then_normal ?_
                replace hS := hS.ssSet (.tail _ (.head _)) x1005.toNat
                exact ⟨_, ⟨k + 1, (some (g1010, og1015)), dl.set x1005.toNat (Sv.mk none 0 0), lss.set x1005.toNat [], _, fr_keep ⟨rfl, rfl, rfl, rfl, rfl, rfl, trivial⟩, rfl, by omega, (hS.repin 0 ⟨(.head _), (.tail _ (.tail _ (.tail _ (.head _)))), (.tail _ (.tail _ (.tail _ (.tail _ (.head _))))), (.tail _ (.tail _ (.tail _ (.tail _ (.tail _ (.head _)))))), (.tail _ (.tail _ (.tail _ (.tail _ (.tail _ (.tail _ (.head _))))))), (.tail _ (.tail _ (.tail _ (.tail _ (.tail _ (.tail _ (.tail _ (.head _)))))))), (.tail _ (.tail _ (.tail _ (.tail _ (.tail _ (.tail _ (.tail _ (.tail _ (.head _))))))))), (.tail _ (.tail _ (.tail _ (.tail _ (.tail _ (.tail _ (.tail _ (.tail _ (.tail _ (.head _)))))))))), (.tail _ (.tail _ (.tail _ (.tail _ (.tail _ (.tail _ (.tail _ (.tail _ (.tail _ (.tail _ (.head _))))))))))), (.tail _ (.tail _ (.tail _ (.tail _ (.tail _ (.tail _ (.tail _ (.tail _ (.tail _ (.tail _ (.tail _ (.head _)))))))))))), (.tail _ (.tail _ (.tail _ (.tail _ (.tail _ (.tail _ (.tail _ (.tail _ (.tail _ (.tail _ (.tail _ (.tail _ (.head _))))))))))))), (.tail _ (.tail _ (.tail _ (.tail _ (.tail _ (.tail _ (.tail _ (.tail _ (.tail _ (.tail _ (.tail _ (.tail _ (.tail _ (.head _)))))))))))))), (.tail _ (.tail _ (.tail _ (.tail _ (.tail _ (.tail _ (.tail _ (.tail _ (.tail _ (.tail _ (.tail _ (.tail _ (.tail _ (.tail _ (.head _))))))))))))))), trivial⟩), hO1016, (by rw [take_snoc? hx1006, setsAt_snoc, hst]), (by simp [hlen2]), (by simp [hdl]), (Nat.le_trans (flatten_set_le _ _) hl3)⟩, by simp only [id]; omega⟩
          ·
            have hc1002' : ¬ ((k : Int) < ((((needF ([la, lb, lc]) ([la, lb, lc]).length).1).length : Nat) : Int)) := by simpa using hc1002
            refine WP.exit ?_
            refine then_exit (then_exit (inBlock_same (?_)))
            refine then_normal ?_
            refine WP.seq ?_
            refine WP.region ?_
            refine WL.op (v := .slice (some ⟨b993, 0, none⟩) 3 3) rfl rfl rfl (Ex.move rfl rfl) ?_
            have hsl1018 : Sl W1000 (.slice (some ⟨b993, 0, none⟩) 3 3) dl := (OutG.slM hOl hS (fun p hp => by first | (rw [hp]; simp; done) | (cases hp; simp)) (by first | omega | (simp; done) | (simp; omega))).1
            refine WL.call rfl rfl rfl (enterS eg36 (args := [.slice (some ⟨b993, 0, none⟩) 3 3]) rfl rfl rfl rfl) (c_all _ dl lss _ hsl1018 (hS.mem (.head _)) hlen2 hl3) ?_
            rintro e W1020 ⟨v1017, rfl, hB, hv', hn'⟩
            have hN1019 : New w v1017 := fun b hb => Nat.le_trans hS.bw.size (hn' b hb)
            replace hsl1018 := hsl1018.bw hB
            replace hS := hS.newPin hB (pinSl v1017 (normAt lss.flatten)) hv' hn'
            refine ⟨_, rfl, ?_⟩
            have hq1021 := Nat.le_trans (normAt_length lss.flatten) (hl3)
            refine WL.op (v := s1.v) rfl rfl rfl (Ex.move rfl rfl) ?_
            refine WL.op (v := s2.v) rfl rfl rfl (Ex.move rfl rfl) ?_
            refine WL.op (v := s3.v) rfl rfl rfl (Ex.move rfl rfl) ?_
            refine WL.buildSlice (ps := [(0, s1.v), (1, s2.v), (2, s3.v)]) (C := #[s1.v, s2.v, s3.v]) (E := 22) rfl (fun _ => by kernel_rfl) hS rfl rfl rfl rfl (fun b1022 W1023 hS => ?_)
            replace hS := hS.slice (xs := [s1, s2, s3]) (cap := 3) rfl (by simp)
            refine WL.call rfl rfl rfl (enterS eg36 (args := [.slice (some ⟨b1022, 0, none⟩) 3 3]) rfl rfl rfl rfl) (c_all _ [s1, s2, s3] [la, lb, lc] _ (hS.mem (.head _)) (SS.cons (hS.mem (.tail _ (.tail _ (.tail _ (.tail _ (.tail _ (.tail _ (.tail _ (.tail _ (.tail _ (.tail _ (.tail _ (.tail _ (.head _)))))))))))))) (SS.cons (hS.mem (.tail _ (.tail _ (.tail _ (.tail _ (.tail _ (.tail _ (.tail _ (.tail _ (.tail _ (.tail _ (.tail _ (.tail _ (.tail _ (.head _))))))))))))))) (SS.cons (hS.mem (.tail _ (.tail _ (.tail _ (.tail _ (.tail _ (.tail _ (.tail _ (.tail _ (.tail _ (.tail _ (.tail _ (.tail _ (.tail _ (.tail _ (.head _)))))))))))))))) (SS.nil)))) rfl (by simp; omega)) ?_
            rintro e W1026 ⟨v1024, rfl, hB, hv', hn'⟩
            have hN1025 : New w v1024 := fun b hb => Nat.le_trans hS.bw.size (hn' b hb)
            replace hS := hS.newPin hB (pinSl v1024 (normAt [la, lb, lc].flatten)) hv' hn'
            refine ⟨_, rfl, ?_⟩
            have hq1027 := normAt_length [la, lb, lc].flatten
            refine WL.call rfl rfl rfl (enterS eg15 (args := [v1017, v1024]) rfl rfl rfl rfl) (c_rows _ _ (normAt lss.flatten) (normAt [la, lb, lc].flatten) _ (hS.mem (.tail _ (.tail _ (.head _)))) (hS.mem (.head _))) ?_
            rintro e W1028 ⟨rfl, hB⟩
            replace hS := hS.ext hB
            refine ⟨_, rfl, ?_⟩
            have hfin : normAt lss.flatten = normAt [la, lb, lc].flatten := by rw [hst, show k = (needF ([la, lb, lc]) ([la, lb, lc]).length).1.length by omega, List.take_length, need_sets]; exact need_norm [la, lb, lc]
            have ht1029 : (decide (normAt lss.flatten = normAt [la, lb, lc].flatten)) = true := decide_eq_true hfin
            refine WL.op (v := .bool (decide (normAt lss.flatten = normAt [la, lb, lc].flatten))) rfl rfl rfl (Ex.move rfl rfl) ?_
            refine WL.on rfl rfl rfl (congrArg Value.bool ht1029) ?_
            refine WL.call rfl rfl rfl (enterS eg33 (args := []) rfl rfl rfl rfl) (c_alive11 _) ?_
            rintro e W1030 ⟨rfl, hB⟩
            replace hS := hS.ext hB
            refine ⟨_, rfl, ?_⟩
            refine WL.op (v := .bool true) rfl rfl rfl (Ex.pickT rfl (congrArg Value.bool ht1029) rfl) ?_
            refine WL.op (v := .bool true) rfl rfl rfl (Ex.assign rfl rfl) ?_
            refine WL.nil ?_
            refine then_normal ?_
            refine WP.ret ?_
            refine ?_
            refine rt1 (v := .bool true) rfl rfl ?_
            exact ⟨rfl, hS.bw⟩
theorem c_deltaLeast (v1 v2 v3 : Value) (la lb lc : List At) (w : World) (ha : Sl w v1 la) (hb : Sl w v2 lb) (hc : Sl w v3 lc) : Calls Try.prog 6 #[v1, v2, v3] w fun e w' => e = .returned (.bool true) ∧ Bw w w' := by
  obtain ⟨p1, c1, rfl⟩ := ha.len
  obtain ⟨p2, c2, rfl⟩ := hb.len
  obtain ⟨p3, c3, rfl⟩ := hc.len
  exact c_deltaLeast0 ⟨p1, _, c1⟩ ⟨p2, _, c2⟩ ⟨p3, _, c3⟩ la lb lc w ha hb hc
end Go.Proofs.Ythidakffgcjjiaa
