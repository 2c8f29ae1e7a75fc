/- The walk of LatJoins. -/
import Derived.Test.YthidakffgcjjiaaLaw10
import Derived.Test.YthidakffgcjjiaaRef10
namespace Go.Proofs.Ythidakffgcjjiaa
open Go.RowKit Go.Sort

set_option maxRecDepth 100000 in
set_option maxHeartbeats 4000000 in
theorem c_latJoins (s1 s2 : Value) (la lb : List At) (w : World) (ha : Sl w s1 la) (hb : Sl w s2 lb) :
    Calls Try.prog 3 #[s1, s2] w fun e w' => e = .returned (.bool true) ∧ Bw w w' := by
  have hS := St.begin (w := w) (pins := pinSl s1 la :: pinSl s2 lb :: []) ⟨ha, hb, trivial⟩
  refine enter (n := 51) Try.func3 rfl rfl (Nat.le_of_ble_eq_true rfl) (l := [(0, s1), (1, s2)]) rfl ?_
  refine WP.seq ?_
  refine WP.region ?_
  refine WL.op (v := .bool false) rfl rfl rfl (Ex.assign rfl rfl) ?_
  refine WL.nil ?_
  refine then_normal ?_
  refine WP.seq ?_
  refine WP.seq ?_
  refine WP.region ?_
  refine WL.op (v := s1) rfl rfl rfl (Ex.move rfl rfl) ?_
  have hl764 : la.length < 4611686018427387904 := (hS.mem (.head _) : Sl _ _ _).lt
  refine WL.op (v := .int .i64 (la.length : Int)) rfl rfl rfl (Ex.lenSl (l := la) ⟨_, under22⟩ rfl rfl (hS.mem (.head _))) ?_
  refine WL.op (v := .bool (decide (60 < (la.length : Int)))) rfl rfl rfl (Ex.gt rfl rfl rfl) ?_
  refine WL.op (v := .bool (decide (60 < (la.length : Int)))) rfl rfl rfl (Ex.move rfl rfl) ?_
  rcases Bool.eq_false_or_eq_true (decide (60 < (la.length : Int))) with hg765 | hg765
  ·
    have hg765' : 60 < (la.length : Int) := by simpa using hg765
    refine WL.off (b' := true) rfl rfl rfl rfl rfl rfl (congrArg Value.bool hg765) rfl ?_
    refine WL.off (b' := true) rfl rfl rfl rfl rfl rfl (congrArg Value.bool hg765) rfl ?_
    refine WL.off (b' := true) rfl rfl rfl rfl rfl rfl (congrArg Value.bool hg765) rfl ?_
    refine WL.op (v := .bool true) rfl rfl rfl (Ex.pickT rfl (congrArg Value.bool hg765) rfl) ?_
    refine WL.nil ?_
    refine then_normal ?_
    refine WP.condT rfl ?_
    refine WP.seq ?_
    refine WP.region ?_
    refine WL.call rfl rfl rfl (enterS eg14 (args := []) rfl rfl rfl rfl) (c_alive10 _) ?_
    rintro e W766 ⟨rfl, hB⟩
    replace hS := hS.ext hB
    refine ⟨_, rfl, ?_⟩
    refine WL.op (v := .bool true) rfl rfl rfl (Ex.assign rfl rfl) ?_
    refine WL.nil ?_
    refine then_normal ?_
    refine WP.ret ?_
    refine then_ret (?_)
    refine rt1 (v := .bool true) rfl rfl ?_
    exact ⟨rfl, hS.bw⟩
  ·
    have hg765' : ¬ (60 < (la.length : Int)) := by simpa using hg765
    refine WL.on rfl rfl rfl (congrArg Value.bool hg765) ?_
    refine WL.op (v := s2) rfl rfl rfl (Ex.move rfl rfl) ?_
    refine WL.on rfl rfl rfl (congrArg Value.bool hg765) ?_
    have hl767 : lb.length < 4611686018427387904 := (hS.mem (.tail _ (.head _)) : Sl _ _ _).lt
    refine WL.op (v := .int .i64 (lb.length : Int)) rfl rfl rfl (Ex.lenSl (l := lb) ⟨_, under22⟩ rfl rfl (hS.mem (.tail _ (.head _)))) ?_
    refine WL.on rfl rfl rfl (congrArg Value.bool hg765) ?_
    refine WL.op (v := .bool (decide (60 < (lb.length : Int)))) rfl rfl rfl (Ex.gt rfl rfl rfl) ?_
    refine WL.op (v := .bool (decide (60 < (lb.length : Int)))) rfl rfl rfl (Ex.pickF rfl (congrArg Value.bool hg765) rfl) ?_
    refine WL.nil ?_
    refine then_normal ?_
    refine WP.cond (b := decide (60 < (lb.length : Int))) rfl (fun hc768 => ?_) (fun hc768 => ?_)
    ·
      have hc768' : 60 < (lb.length : Int) := by simpa using hc768
      refine WP.seq ?_
      refine WP.region ?_
      refine WL.call rfl rfl rfl (enterS eg14 (args := []) rfl rfl rfl rfl) (c_alive10 _) ?_
      rintro e W769 ⟨rfl, hB⟩
      replace hS := hS.ext hB
      refine ⟨_, rfl, ?_⟩
      refine WL.op (v := .bool true) rfl rfl rfl (Ex.assign rfl rfl) ?_
      refine WL.nil ?_
      refine then_normal ?_
      refine WP.ret ?_
      refine then_ret (?_)
      refine rt1 (v := .bool true) rfl rfl ?_
      exact ⟨rfl, hS.bw⟩
    ·
      have hc768' : ¬ (60 < (lb.length : Int)) := by simpa using hc768
      refine WP.skip ?_
      refine then_normal ?_
      refine WP.seq ?_
      refine WP.region ?_
      refine WL.op (v := s1) rfl rfl rfl (Ex.move rfl rfl) ?_
      refine WL.op (v := s2) rfl rfl rfl (Ex.move rfl rfl) ?_
      refine WL.call rfl rfl rfl (enterS eg16 (args := [s1, s2]) rfl rfl rfl rfl) (c_join _ _ la lb _ (hS.mem (.head _)) (hS.mem (.tail _ (.head _))) (by first | omega | (simp; done) | (simp; omega))) ?_
      rintro e W772 ⟨v770, rfl, hB, hv', hn'⟩
      have hN771 : New w v770 := fun b hb => Nat.le_trans hS.bw.size (hn' b hb)
      replace hS := hS.newPin hB (pinSl v770 (normAt (la ++ lb))) hv' hn'
      refine ⟨_, rfl, ?_⟩
      have hq773 := normAt_len2 la lb
      refine WL.op (v := s1) rfl rfl rfl (Ex.move rfl rfl) ?_
      refine WL.op (v := s2) rfl rfl rfl (Ex.move rfl rfl) ?_
      refine WL.call rfl rfl rfl (enterS eg17 (args := [s1, s2]) rfl rfl rfl rfl) (c_rjoin _ _ la lb _ (hS.mem (.tail _ (.head _))) (hS.mem (.tail _ (.tail _ (.head _)))) (by first | omega | (simp; done) | (simp; omega)) (by first | omega | (simp; done) | (simp; omega))) ?_
      rintro e W776 ⟨v774, rfl, hB, hv', hn'⟩
      have hN775 : New w v774 := fun b hb => Nat.le_trans hS.bw.size (hn' b hb)
      replace hS := hS.newPin hB (pinSl v774 (normAt (la ++ lb))) hv' hn'
      refine ⟨_, rfl, ?_⟩
      have hq777 := normAt_len2 la lb
      refine WL.call rfl rfl rfl (enterS eg15 (args := [v770, v774]) rfl rfl rfl rfl) (c_rows _ _ (normAt (la ++ lb)) (normAt (la ++ lb)) _ (hS.mem (.tail _ (.head _))) (hS.mem (.head _))) ?_
      rintro e W778 ⟨rfl, hB⟩
      replace hS := hS.ext hB
      refine ⟨_, rfl, ?_⟩
      have ht779 : (decide (normAt (la ++ lb) = normAt (la ++ lb))) = true := decide_eq_true rfl
      refine WL.op (v := .bool (decide (normAt (la ++ lb) = normAt (la ++ lb)))) rfl rfl rfl (Ex.move rfl rfl) ?_
      refine WL.on rfl rfl rfl (congrArg Value.bool ht779) ?_
      refine WL.op (v := s1) rfl rfl rfl (Ex.move rfl rfl) ?_
      refine WL.on rfl rfl rfl (congrArg Value.bool ht779) ?_
      refine WL.op (v := s2) rfl rfl rfl (Ex.move rfl rfl) ?_
      refine WL.on rfl rfl rfl (congrArg Value.bool ht779) ?_
      refine WL.call rfl rfl rfl (enterS eg18 (args := [s1, s2]) rfl rfl rfl rfl) (c_meet _ _ la lb _ (hS.mem (.tail _ (.tail _ (.head _)))) (hS.mem (.tail _ (.tail _ (.tail _ (.head _))))) (by first | omega | (simp; done) | (simp; omega)) (by first | omega | (simp; done) | (simp; omega))) ?_
      rintro e W782 ⟨v780, rfl, hB, hv', hn'⟩
      have hN781 : New w v780 := fun b hb => Nat.le_trans hS.bw.size (hn' b hb)
      replace hS := hS.newPin hB (pinSl v780 (meetAt la lb)) hv' hn'
      refine ⟨_, rfl, ?_⟩
      have hq783 := meetAt_length la lb
      refine WL.on rfl rfl rfl (congrArg Value.bool ht779) ?_
      refine WL.op (v := s1) rfl rfl rfl (Ex.move rfl rfl) ?_
      refine WL.on rfl rfl rfl (congrArg Value.bool ht779) ?_
      refine WL.op (v := s2) rfl rfl rfl (Ex.move rfl rfl) ?_
      refine WL.on rfl rfl rfl (congrArg Value.bool ht779) ?_
      refine WL.call rfl rfl rfl (enterS eg19 (args := [s1, s2]) rfl rfl rfl rfl) (c_rmeet _ _ la lb _ (hS.mem (.tail _ (.tail _ (.tail _ (.head _))))) (hS.mem (.tail _ (.tail _ (.tail _ (.tail _ (.head _)))))) (by first | omega | (simp; done) | (simp; omega)) (by first | omega | (simp; done) | (simp; omega))) ?_
      rintro e W786 ⟨v784, rfl, hB, hv', hn'⟩
      have hN785 : New w v784 := fun b hb => Nat.le_trans hS.bw.size (hn' b hb)
      replace hS := hS.newPin hB (pinSl v784 (meetAt la lb)) hv' hn'
      refine ⟨_, rfl, ?_⟩
      have hq787 := meetAt_length la lb
      refine WL.on rfl rfl rfl (congrArg Value.bool ht779) ?_
      refine WL.call rfl rfl rfl (enterS eg15 (args := [v780, v784]) rfl rfl rfl rfl) (c_rows _ _ (meetAt la lb) (meetAt la lb) _ (hS.mem (.tail _ (.head _))) (hS.mem (.head _))) ?_
      rintro e W788 ⟨rfl, hB⟩
      replace hS := hS.ext hB
      refine ⟨_, rfl, ?_⟩
      have ht789 : (decide (meetAt la lb = meetAt la lb)) = true := decide_eq_true rfl
      refine WL.op (v := .bool (decide (meetAt la lb = meetAt la lb))) rfl rfl rfl (Ex.pickT rfl (congrArg Value.bool ht779) rfl) ?_
      refine WL.op (v := .bool (decide (meetAt la lb = meetAt la lb))) rfl rfl rfl (Ex.move rfl rfl) ?_
      refine WL.on rfl rfl rfl (congrArg Value.bool ht789) ?_
      refine WL.op (v := s1) rfl rfl rfl (Ex.move rfl rfl) ?_
      refine WL.on rfl rfl rfl (congrArg Value.bool ht789) ?_
      refine WL.op (v := s2) rfl rfl rfl (Ex.move rfl rfl) ?_
      refine WL.on rfl rfl rfl (congrArg Value.bool ht789) ?_
      refine WL.call rfl rfl rfl (enterS eg20 (args := [s1, s2]) rfl rfl rfl rfl) (c_leq _ _ la lb _ (hS.mem (.tail _ (.tail _ (.tail _ (.tail _ (.head _)))))) (hS.mem (.tail _ (.tail _ (.tail _ (.tail _ (.tail _ (.head _))))))) (by first | omega | (simp; done) | (simp; omega)) (by first | omega | (simp; done) | (simp; omega))) ?_
      rintro e W790 ⟨rfl, hB⟩
      replace hS := hS.ext hB
      refine ⟨_, rfl, ?_⟩
      refine WL.on rfl rfl rfl (congrArg Value.bool ht789) ?_
      refine WL.op (v := s1) rfl rfl rfl (Ex.move rfl rfl) ?_
      refine WL.on rfl rfl rfl (congrArg Value.bool ht789) ?_
      refine WL.op (v := s2) rfl rfl rfl (Ex.move rfl rfl) ?_
      refine WL.on rfl rfl rfl (congrArg Value.bool ht789) ?_
      refine WL.call rfl rfl rfl (enterS eg21 (args := [s1, s2]) rfl rfl rfl rfl) (c_rleq _ _ la lb _ (hS.mem (.tail _ (.tail _ (.tail _ (.tail _ (.head _)))))) (hS.mem (.tail _ (.tail _ (.tail _ (.tail _ (.tail _ (.head _))))))) (by first | omega | (simp; done) | (simp; omega)) (by first | omega | (simp; done) | (simp; omega))) ?_
      rintro e W792 ⟨rfl, hB⟩
      replace hS := hS.ext hB
      refine ⟨_, rfl, ?_⟩
      refine WL.on rfl rfl rfl (congrArg Value.bool ht789) ?_
      refine WL.op (v := .bool ((leqAt la lb) == (leqAt la lb))) rfl rfl rfl (Ex.binop rfl rfl rfl (eqlB4 _ _ _ _ _)) ?_
      have ht794 : ((leqAt la lb) == (leqAt la lb)) = true := beq_self_eq_true _
      refine WL.op (v := .bool ((leqAt la lb) == (leqAt la lb))) rfl rfl rfl (Ex.pickT rfl (congrArg Value.bool ht789) rfl) ?_
      refine WL.op (v := .bool ((leqAt la lb) == (leqAt la lb))) rfl rfl rfl (Ex.move rfl rfl) ?_
      refine WL.on rfl rfl rfl (congrArg Value.bool ht794) ?_
      refine WL.op (v := s1) rfl rfl rfl (Ex.move rfl rfl) ?_
      refine WL.on rfl rfl rfl (congrArg Value.bool ht794) ?_
      refine WL.op (v := s2) rfl rfl rfl (Ex.move rfl rfl) ?_
      refine WL.on rfl rfl rfl (congrArg Value.bool ht794) ?_
      refine WL.call rfl rfl rfl (enterS eg22 (args := [s1, s2]) rfl rfl rfl rfl) (c_same _ _ la lb _ (hS.mem (.tail _ (.tail _ (.tail _ (.tail _ (.head _)))))) (hS.mem (.tail _ (.tail _ (.tail _ (.tail _ (.tail _ (.head _))))))) (by first | omega | (simp; done) | (simp; omega)) (by first | omega | (simp; done) | (simp; omega))) ?_
      rintro e W795 ⟨rfl, hB⟩
      replace hS := hS.ext hB
      refine ⟨_, rfl, ?_⟩
      refine WL.on rfl rfl rfl (congrArg Value.bool ht794) ?_
      refine WL.op (v := s1) rfl rfl rfl (Ex.move rfl rfl) ?_
      refine WL.on rfl rfl rfl (congrArg Value.bool ht794) ?_
      refine WL.op (v := s2) rfl rfl rfl (Ex.move rfl rfl) ?_
      refine WL.on rfl rfl rfl (congrArg Value.bool ht794) ?_
      refine WL.call rfl rfl rfl (enterS eg23 (args := [s1, s2]) rfl rfl rfl rfl) (c_rsame _ _ la lb _ (hS.mem (.tail _ (.tail _ (.tail _ (.tail _ (.head _)))))) (hS.mem (.tail _ (.tail _ (.tail _ (.tail _ (.tail _ (.head _))))))) (by first | omega | (simp; done) | (simp; omega)) (by first | omega | (simp; done) | (simp; omega))) ?_
      rintro e W797 ⟨rfl, hB⟩
      replace hS := hS.ext hB
      refine ⟨_, rfl, ?_⟩
      refine WL.on rfl rfl rfl (congrArg Value.bool ht794) ?_
      refine WL.op (v := .bool ((decide (normAt la = normAt lb)) == (decide (normAt la = normAt lb)))) rfl rfl rfl (Ex.binop rfl rfl rfl (eqlB4 _ _ _ _ _)) ?_
      have ht799 : ((decide (normAt la = normAt lb)) == (decide (normAt la = normAt lb))) = true := beq_self_eq_true _
      refine WL.op (v := .bool ((decide (normAt la = normAt lb)) == (decide (normAt la = normAt lb)))) rfl rfl rfl (Ex.pickT rfl (congrArg Value.bool ht794) rfl) ?_
      refine WL.op (v := .bool ((decide (normAt la = normAt lb)) == (decide (normAt la = normAt lb)))) rfl rfl rfl (Ex.move rfl rfl) ?_
      refine WL.on rfl rfl rfl (congrArg Value.bool ht799) ?_
      refine WL.call rfl rfl rfl (enterS eg14 (args := []) rfl rfl rfl rfl) (c_alive10 _) ?_
      rintro e W800 ⟨rfl, hB⟩
      replace hS := hS.ext hB
      refine ⟨_, rfl, ?_⟩
      refine WL.op (v := .bool true) rfl rfl rfl (Ex.pickT rfl (congrArg Value.bool ht799) rfl) ?_
      refine WL.op (v := .bool true) rfl rfl rfl (Ex.assign rfl rfl) ?_
      refine WL.nil ?_
      refine then_normal ?_
      refine WP.ret ?_
      refine ?_
      refine rt1 (v := .bool true) rfl rfl ?_
      exact ⟨rfl, hS.bw⟩
end Go.Proofs.Ythidakffgcjjiaa
