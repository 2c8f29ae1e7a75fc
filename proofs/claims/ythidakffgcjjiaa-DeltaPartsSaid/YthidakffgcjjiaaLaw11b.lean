/- The walk of DeltaParts. -/
import Derived.Test.YthidakffgcjjiaaLaw11
import Derived.Test.YthidakffgcjjiaaRef10
import Derived.Test.YthidakffgcjjiaaPartLaws
namespace Go.Proofs.Ythidakffgcjjiaa
open Go.RowKit Go.Sort

set_option maxRecDepth 100000 in
set_option maxHeartbeats 4000000 in
theorem c_deltaParts0 (s1 s2 s3 : Sv) (la lb lc : List At) (w : World) (ha : Sl w s1.v la) (hb : Sl w s2.v lb) (hc : Sl w s3.v lc) :
    Calls Try.prog 10 #[s1.v, s2.v, s3.v] w fun e w' => e = .returned (.bool true) ∧ Bw w w' := by
  have hS := St.begin (w := w) (pins := pinSl s1.v la :: pinSl s2.v lb :: pinSl s3.v lc :: []) ⟨ha, hb, hc, trivial⟩
  refine enter (n := 73) Try.func10 rfl rfl (Nat.le_of_ble_eq_true rfl) (l := [(0, s1.v), (1, s2.v), (2, s3.v)]) rfl ?_
  refine WP.seq ?_
  refine WP.region ?_
  refine WL.op (v := .bool false) rfl rfl rfl (Ex.assign rfl rfl) ?_
  refine WL.nil ?_
  refine then_normal ?_
  refine WP.seq ?_
  refine WP.seq ?_
  refine WP.region ?_
  refine WL.op (v := s1.v) rfl rfl rfl (Ex.move rfl rfl) ?_
  have hl1034 : la.length < 4611686018427387904 := (hS.mem (.head _) : Sl _ _ _).lt
  refine WL.op (v := .int .i64 (la.length : Int)) rfl rfl rfl (Ex.lenSl (l := la) ⟨_, under22⟩ rfl rfl (hS.mem (.head _))) ?_
  refine WL.op (v := .bool (decide (30 < (la.length : Int)))) rfl rfl rfl (Ex.gt rfl rfl rfl) ?_
  refine WL.op (v := .bool (decide (30 < (la.length : Int)))) rfl rfl rfl (Ex.move rfl rfl) ?_
  rcases Bool.eq_false_or_eq_true (decide (30 < (la.length : Int))) with hg1035 | hg1035
  ·
    have hg1035' : 30 < (la.length : Int) := by simpa using hg1035
    refine WL.off (b' := true) rfl rfl rfl rfl rfl rfl (congrArg Value.bool hg1035) rfl ?_
    refine WL.off (b' := true) rfl rfl rfl rfl rfl rfl (congrArg Value.bool hg1035) rfl ?_
    refine WL.off (b' := true) rfl rfl rfl rfl rfl rfl (congrArg Value.bool hg1035) rfl ?_
    refine WL.op (v := .bool true) rfl rfl rfl (Ex.pickT rfl (congrArg Value.bool hg1035) rfl) ?_
    refine WL.op (v := .bool true) rfl rfl rfl (Ex.move rfl rfl) ?_
    refine WL.off (b' := true) rfl rfl rfl rfl rfl rfl rfl rfl ?_
    refine WL.off (b' := true) rfl rfl rfl rfl rfl rfl rfl rfl ?_
    refine WL.off (b' := true) rfl rfl rfl rfl rfl rfl rfl rfl ?_
    refine WL.op (v := .bool true) rfl rfl rfl (Ex.pickT rfl rfl rfl) ?_
    refine WL.nil ?_
    refine then_normal ?_
    refine WP.condT rfl ?_
    refine WP.seq ?_
    refine WP.region ?_
    refine WL.call rfl rfl rfl (enterS eg33 (args := []) rfl rfl rfl rfl) (c_alive11 _) ?_
    rintro e W1036 ⟨rfl, hB⟩
    replace hS := hS.ext hB
    refine ⟨_, rfl, ?_⟩
    refine WL.op (v := .bool true) rfl rfl rfl (Ex.assign rfl rfl) ?_
    refine WL.nil ?_
    refine then_normal ?_
    refine WP.ret ?_
    refine then_ret (?_)
    refine rt1 (v := .bool true) rfl rfl ?_
    exact ⟨rfl, hS.bw⟩
  ·
    have hg1035' : ¬ (30 < (la.length : Int)) := by simpa using hg1035
    refine WL.on rfl rfl rfl (congrArg Value.bool hg1035) ?_
    refine WL.op (v := s2.v) rfl rfl rfl (Ex.move rfl rfl) ?_
    refine WL.on rfl rfl rfl (congrArg Value.bool hg1035) ?_
    have hl1037 : lb.length < 4611686018427387904 := (hS.mem (.tail _ (.head _)) : Sl _ _ _).lt
    refine WL.op (v := .int .i64 (lb.length : Int)) rfl rfl rfl (Ex.lenSl (l := lb) ⟨_, under22⟩ rfl rfl (hS.mem (.tail _ (.head _)))) ?_
    refine WL.on rfl rfl rfl (congrArg Value.bool hg1035) ?_
    refine WL.op (v := .bool (decide (30 < (lb.length : Int)))) rfl rfl rfl (Ex.gt rfl rfl rfl) ?_
    refine WL.op (v := .bool (decide (30 < (lb.length : Int)))) rfl rfl rfl (Ex.pickF rfl (congrArg Value.bool hg1035) rfl) ?_
    refine WL.op (v := .bool (decide (30 < (lb.length : Int)))) rfl rfl rfl (Ex.move rfl rfl) ?_
    rcases Bool.eq_false_or_eq_true (decide (30 < (lb.length : Int))) with hg1038 | hg1038
    ·
      have hg1038' : 30 < (lb.length : Int) := by simpa using hg1038
      refine WL.off (b' := true) rfl rfl rfl rfl rfl rfl (congrArg Value.bool hg1038) rfl ?_
      refine WL.off (b' := true) rfl rfl rfl rfl rfl rfl (congrArg Value.bool hg1038) rfl ?_
      refine WL.off (b' := true) rfl rfl rfl rfl rfl rfl (congrArg Value.bool hg1038) rfl ?_
      refine WL.op (v := .bool true) rfl rfl rfl (Ex.pickT rfl (congrArg Value.bool hg1038) rfl) ?_
      refine WL.nil ?_
      refine then_normal ?_
      refine WP.condT rfl ?_
      refine WP.seq ?_
      refine WP.region ?_
      refine WL.call rfl rfl rfl (enterS eg33 (args := []) rfl rfl rfl rfl) (c_alive11 _) ?_
      rintro e W1039 ⟨rfl, hB⟩
      replace hS := hS.ext hB
      refine ⟨_, rfl, ?_⟩
      refine WL.op (v := .bool true) rfl rfl rfl (Ex.assign rfl rfl) ?_
      refine WL.nil ?_
      refine then_normal ?_
      refine WP.ret ?_
      refine then_ret (?_)
      refine rt1 (v := .bool true) rfl rfl ?_
      exact ⟨rfl, hS.bw⟩
    ·
      have hg1038' : ¬ (30 < (lb.length : Int)) := by simpa using hg1038
      refine WL.on rfl rfl rfl (congrArg Value.bool hg1038) ?_
      refine WL.op (v := s3.v) rfl rfl rfl (Ex.move rfl rfl) ?_
      refine WL.on rfl rfl rfl (congrArg Value.bool hg1038) ?_
      have hl1040 : lc.length < 4611686018427387904 := (hS.mem (.tail _ (.tail _ (.head _))) : Sl _ _ _).lt
      refine WL.op (v := .int .i64 (lc.length : Int)) rfl rfl rfl (Ex.lenSl (l := lc) ⟨_, under22⟩ rfl rfl (hS.mem (.tail _ (.tail _ (.head _))))) ?_
      refine WL.on rfl rfl rfl (congrArg Value.bool hg1038) ?_
      refine WL.op (v := .bool (decide (30 < (lc.length : Int)))) rfl rfl rfl (Ex.gt rfl rfl rfl) ?_
      refine WL.op (v := .bool (decide (30 < (lc.length : Int)))) rfl rfl rfl (Ex.pickF rfl (congrArg Value.bool hg1038) rfl) ?_
      refine WL.nil ?_
      refine then_normal ?_
      refine WP.cond (b := decide (30 < (lc.length : Int))) rfl (fun hc1041 => ?_) (fun hc1041 => ?_)
      ·
        have hc1041' : 30 < (lc.length : Int) := by simpa using hc1041
        refine WP.seq ?_
        refine WP.region ?_
        refine WL.call rfl rfl rfl (enterS eg33 (args := []) rfl rfl rfl rfl) (c_alive11 _) ?_
        rintro e W1042 ⟨rfl, hB⟩
        replace hS := hS.ext hB
        refine ⟨_, rfl, ?_⟩
        refine WL.op (v := .bool true) rfl rfl rfl (Ex.assign rfl rfl) ?_
        refine WL.nil ?_
        refine then_normal ?_
        refine WP.ret ?_
        refine then_ret (?_)
        refine rt1 (v := .bool true) rfl rfl ?_
        exact ⟨rfl, hS.bw⟩
      ·
        have hc1041' : ¬ (30 < (lc.length : Int)) := by simpa using hc1041
        refine WP.skip ?_
        refine then_normal ?_
        refine WP.seq ?_
        refine WP.region ?_
        refine WL.op (v := s1.v) rfl rfl rfl (Ex.move rfl rfl) ?_
        refine WL.call rfl rfl rfl (enterS eg50 (args := [s1.v]) rfl rfl rfl rfl) (c_parts _ la _ (hS.mem (.head _)) (by first | omega | (simp; done) | (simp; omega))) ?_
        rintro e W1046 ⟨v1043, rs1044, rfl, hB, hR1045⟩
        have hPv1043 : ((normAt la).map (fun a => [a])).flatten.length ≤ 1048576 := by rw [ones_flatten]; exact Nat.le_trans (normAt_length _) (by first | omega | (simp; done) | (simp; omega))
        have hQv1043 : rs1044.length ≤ 1048576 := by rw [hR1045.len, List.length_map]; exact Nat.le_trans (normAt_length _) (by first | omega | (simp; done) | (simp; omega))
        have hrl1047 := hR1045.len
        replace hS := hS.newRows hB hR1045
        refine ⟨_, rfl, ?_⟩
        refine WL.op (v := v1043) rfl rfl rfl (Ex.assign rfl rfl) ?_
        refine WL.nil ?_
        refine then_normal ?_
        refine WP.seq ?_
        refine WP.seq ?_
        refine WP.region ?_
        refine WL.op (v := v1043) rfl rfl rfl (Ex.move rfl rfl) ?_
        refine WL.call rfl rfl rfl (enterS eg36 (args := [v1043]) rfl rfl rfl rfl) (c_all _ rs1044 ((normAt la).map (fun a => [a])) _ (hS.mem (.tail _ (.head _))) (hS.mem (.head _)) hR1045.len hPv1043) ?_
        rintro e W1050 ⟨v1048, rfl, hB, hv', hn'⟩
        have hN1049 : New w v1048 := fun b hb => Nat.le_trans hS.bw.size (hn' b hb)
        replace hS := hS.newPin hB (pinSl v1048 (normAt ((normAt la).map (fun a => [a])).flatten)) hv' hn'
        refine ⟨_, rfl, ?_⟩
        have hq1051 := Nat.le_trans (normAt_length ((normAt la).map (fun a => [a])).flatten) (hPv1043)
        refine WL.op (v := s1.v) rfl rfl rfl (Ex.move rfl rfl) ?_
        refine WL.call rfl rfl rfl (enterS eg23 (args := [v1048, s1.v]) rfl rfl rfl rfl) (c_rsame _ _ (normAt ((normAt la).map (fun a => [a])).flatten) la _ (hS.mem (.head _)) (hS.mem (.tail _ (.tail _ (.tail _ (.head _))))) (by first | omega | (simp; done) | (simp; omega)) (by first | omega | (simp; done) | (simp; omega))) ?_
        rintro e W1052 ⟨rfl, hB⟩
        replace hS := hS.ext hB
        refine ⟨_, rfl, ?_⟩
        have ht1053 : (decide (normAt (normAt ((normAt la).map (fun a => [a])).flatten) = normAt la)) = true := decide_eq_true (dp_same la)
        refine WL.op (v := .bool (!(decide (normAt (normAt ((normAt la).map (fun a => [a])).flatten) = normAt la)))) rfl rfl rfl (Ex.not rfl rfl) ?_
        refine WL.op (v := .bool (!(decide (normAt (normAt ((normAt la).map (fun a => [a])).flatten) = normAt la)))) rfl rfl rfl (Ex.move rfl rfl) ?_
        refine WL.on rfl rfl rfl (congrArg (fun b => Value.bool (!b)) ht1053) ?_
        refine WL.op (v := v1043) rfl rfl rfl (Ex.move rfl rfl) ?_
        refine WL.on rfl rfl rfl (congrArg (fun b => Value.bool (!b)) ht1053) ?_
        refine WL.call rfl rfl rfl (enterS eg38 (args := [v1043]) rfl rfl rfl rfl) (c_irredundant _ rs1044 ((normAt la).map (fun a => [a])) _ (hS.mem (.tail _ (.tail _ (.head _)))) (hS.mem (.tail _ (.head _))) hR1045.len (hR1045.cap) hQv1043 (hPv1043)) ?_
        rintro e W1054 ⟨rfl, hB⟩
        replace hS := hS.ext hB
        refine ⟨_, rfl, ?_⟩
        have ht1055 : (irredAt ((normAt la).map (fun a => [a]))) = true := dp_irred la
        refine WL.on rfl rfl rfl (congrArg (fun b => Value.bool (!b)) ht1053) ?_
        refine WL.op (v := .bool (!(irredAt ((normAt la).map (fun a => [a]))))) rfl rfl rfl (Ex.not rfl rfl) ?_
        refine WL.op (v := .bool (!(irredAt ((normAt la).map (fun a => [a]))))) rfl rfl rfl (Ex.pickF rfl (congrArg (fun b => Value.bool (!b)) ht1053) rfl) ?_
        refine WL.op (v := .bool (!(irredAt ((normAt la).map (fun a => [a]))))) rfl rfl rfl (Ex.move rfl rfl) ?_
        refine WL.on rfl rfl rfl (congrArg (fun b => Value.bool (!b)) ht1055) ?_
        refine WL.op (v := v1043) rfl rfl rfl (Ex.move rfl rfl) ?_
        refine WL.on rfl rfl rfl (congrArg (fun b => Value.bool (!b)) ht1055) ?_
        refine WL.call rfl rfl rfl (enterS eg35 (args := [v1043]) rfl rfl rfl rfl) (c_needless _ rs1044 ((normAt la).map (fun a => [a])) _ (hS.mem (.tail _ (.tail _ (.head _)))) (hS.mem (.tail _ (.head _))) hR1045.len (hR1045.cap) hQv1043 (hPv1043)) ?_
        rintro e W1058 ⟨v1056, rfl, hB, hv', hn1057⟩
        replace hS := hS.newPin hB (pinSl v1056 (needF ((normAt la).map (fun a => [a])) ((normAt la).map (fun a => [a])).length).1) hv' hn1057
        refine ⟨_, rfl, ?_⟩
        refine WL.on rfl rfl rfl (congrArg (fun b => Value.bool (!b)) ht1055) ?_
        have hl1059 : ((needF ((normAt la).map (fun a => [a])) ((normAt la).map (fun a => [a])).length).1).length < 4611686018427387904 := (hS.mem (.head _) : Sl _ _ _).lt
        refine WL.op (v := .int .i64 ((((needF ((normAt la).map (fun a => [a])) ((normAt la).map (fun a => [a])).length).1).length : Nat) : Int)) rfl rfl rfl (Ex.lenSl (l := (needF ((normAt la).map (fun a => [a])) ((normAt la).map (fun a => [a])).length).1) ⟨_, under43⟩ rfl rfl (hS.mem (.head _))) ?_
        refine WL.on rfl rfl rfl (congrArg (fun b => Value.bool (!b)) ht1055) ?_
        refine WL.op (v := .bool (!decide (((((needF ((normAt la).map (fun a => [a])) ((normAt la).map (fun a => [a])).length).1).length : Nat) : Int) = 0))) rfl rfl rfl (Ex.ne rfl rfl rfl) ?_
        have ht1060 : (!decide (((((needF ((normAt la).map (fun a => [a])) ((normAt la).map (fun a => [a])).length).1).length : Nat) : Int) = 0)) = false := by rw [dp_need]; rfl
        refine WL.op (v := .bool (!decide (((((needF ((normAt la).map (fun a => [a])) ((normAt la).map (fun a => [a])).length).1).length : Nat) : Int) = 0))) rfl rfl rfl (Ex.pickF rfl (congrArg (fun b => Value.bool (!b)) ht1055) rfl) ?_
        refine WL.nil ?_
        refine then_normal ?_
        refine WP.condF (congrArg Value.bool ht1060) ?_
        refine WP.skip ?_
        refine then_normal ?_
        refine WP.seq ?_
        refine WP.seq ?_
        refine WP.region ?_
        refine WL.op (v := .int .i64 0) rfl rfl rfl (Ex.assign rfl rfl) ?_
        refine WL.nil ?_
        refine then_normal ?_
        refine WP.block ?_
        refine WP.loop (fun (μ : Nat) a W => ∃ (k : Nat), ∃ (l0 : Fr), a = fr 73 [] ([(1, s2.v), (2, s3.v), (7, v1043), (8, .int .i64 (k : Int))] ++ l0) ∧ μ = rs1044.length - k ∧ k ≤ rs1044.length ∧ St w ([]) (pinSl v1056 ((needF ((normAt la).map (fun a => [a])) ((normAt la).map (fun a => [a])).length).1) :: pinSl v1048 (normAt ((normAt la).map (fun a => [a])).flatten) :: pinSS rs1044 ((normAt la).map (fun a => [a])) :: pinSl v1043 rs1044 :: pinSl s1.v la :: pinSl s2.v lb :: pinSl s3.v lc :: []) W) id _ ⟨0, _, fr_keep ⟨rfl, rfl, rfl, rfl, trivial⟩, rfl, by omega, hS⟩ ?_
        rintro μ a W1061 ⟨k, l0, rfl, rfl, hk, hS⟩
        refine WP.seq ?_
        refine WP.seq ?_
        refine WP.region ?_
        refine WL.op (v := .int .i64 (k : Int)) rfl rfl rfl (Ex.move rfl rfl) ?_
        refine WL.op (v := v1043) rfl rfl rfl (Ex.move rfl rfl) ?_
        have hl1062 : rs1044.length < 4611686018427387904 := (hS.mem (.tail _ (.tail _ (.tail _ (.head _)))) : Sl _ _ _).lt
        refine WL.op (v := .int .i64 (rs1044.length : Int)) rfl rfl rfl (Ex.lenSl (l := rs1044) ⟨_, under42⟩ rfl rfl (hS.mem (.tail _ (.tail _ (.tail _ (.head _)))))) ?_
        refine WL.op (v := .bool (decide ((k : Int) < (rs1044.length : Int)))) rfl rfl rfl (Ex.lt rfl rfl rfl) ?_
        refine WL.nil ?_
        refine then_normal ?_
        refine WP.cond (b := decide ((k : Int) < (rs1044.length : Int))) rfl (fun hc1063 => ?_) (fun hc1063 => ?_)
        ·
          have hc1063' : (k : Int) < (rs1044.length : Int) := by simpa using hc1063
          refine WP.skip ?_
          refine then_normal ?_
          refine WP.seq ?_
          refine WP.block ?_
          refine WP.seq ?_
          refine WP.region ?_
          refine WL.op (v := v1043) rfl rfl rfl (Ex.move rfl rfl) ?_
          refine WL.op (v := .int .i64 (k : Int)) rfl rfl rfl (Ex.move rfl rfl) ?_
          obtain ⟨b1064, p1065, x1066, hx1067, hi1068, hS⟩ := hS.elem (α := Sv) (k := k) (.tail _ (.tail _ (.tail _ (.head _)))) under42 tySz22 (by omega)
          refine WL.op (v := .pointer (some ⟨b1064, p1065, none⟩)) rfl rfl rfl (Ex.indexC hi1068 rfl rfl rfl) ?_
          obtain ⟨li1069, hli1070⟩ : ∃ li, ((normAt la).map (fun a => [a]))[k]? = some li := ⟨((normAt la).map (fun a => [a]))[k]'(by omega), by simp⟩
          replace hS := hS.inner (.tail _ (.tail _ (.tail _ (.head _)))) hx1067 hli1070
          have hll1071 : li1069.length ≤ 1048576 := Nat.le_trans (get_flatten_le hli1070) (hPv1043)
          refine WL.op (v := x1066.v) rfl rfl rfl (Ex.load1 tyOne22 rfl rfl (Reads.sub (cs := [x1066.v]) (hS.get 1 rfl) 0 (ds := [x1066.v]) rfl)) ?_
          refine WL.call rfl rfl rfl (enterS eg51 (args := [x1066.v]) rfl rfl rfl rfl) (c_irreducible _ li1069 _ (hS.mem (.head _)) (by first | omega | (simp; done) | (simp; omega))) ?_
          rintro e W1072 ⟨rfl, hB⟩
          replace hS := hS.ext hB
          refine ⟨_, rfl, ?_⟩
          have ht1073 : (decide (((normAt li1069).length : Int) = 1)) = true := decide_eq_true (dp_one hli1070)
          refine WL.op (v := .bool (!(decide (((normAt li1069).length : Int) = 1)))) rfl rfl rfl (Ex.not rfl rfl) ?_
          refine WL.nil ?_
          refine then_normal ?_
          refine WP.condF (congrArg (fun b => Value.bool (!b)) ht1073) ?_
          refine WP.skip ?_
          refine inBlock_normal ?_
          refine then_normal ?_
          refine WP.region ?_
          refine WL.op (v := .int .i64 (k : Int)) rfl rfl rfl (Ex.move rfl rfl) ?_
          refine WL.op (v := .int .i64 ((k + 1 : Nat) : Int)) rfl rfl rfl (Ex.add rfl rfl rfl (wrap_succ (by omega))) ?_
          refine WL.op (v := .int .i64 ((k + 1 : Nat) : Int)) rfl rfl rfl (Ex.assign rfl rfl) ?_
          refine WL.nil ?_
          refine then_normal ?_
          exact ⟨_, ⟨k + 1, _, fr_keep ⟨rfl, rfl, rfl, rfl, trivial⟩, rfl, by omega, hS.drop 0 2⟩, by simp only [id]; omega⟩
        ·
          have hc1063' : ¬ ((k : Int) < (rs1044.length : Int)) := by simpa using hc1063
          refine WP.exit ?_
          refine then_exit (then_exit (inBlock_same (?_)))
          refine then_normal ?_
          refine WP.seq ?_
          refine WP.region ?_
          refine WL.op (v := s2.v) rfl rfl rfl (Ex.move rfl rfl) ?_
          refine WL.op (v := s3.v) rfl rfl rfl (Ex.move rfl rfl) ?_
          refine WL.call rfl rfl rfl (enterS eg16 (args := [s2.v, s3.v]) rfl rfl rfl rfl) (c_join _ _ lb lc _ (hS.mem (.tail _ (.tail _ (.tail _ (.tail _ (.tail _ (.head _))))))) (hS.mem (.tail _ (.tail _ (.tail _ (.tail _ (.tail _ (.tail _ (.head _)))))))) (by first | omega | (simp; done) | (simp; omega))) ?_
          rintro e W1076 ⟨v1074, rfl, hB, hv', hn'⟩
          have hN1075 : New w v1074 := fun b hb => Nat.le_trans hS.bw.size (hn' b hb)
          replace hS := hS.newPin hB (pinSl v1074 (normAt (lb ++ lc))) hv' hn'
          refine ⟨_, rfl, ?_⟩
          have hq1077 := normAt_len2 lb lc
          refine WL.op (v := v1074) rfl rfl rfl (Ex.assign rfl rfl) ?_
          refine WL.nil ?_
          refine then_normal ?_
          refine WP.seq ?_
          refine WP.region ?_
          refine WL.op (v := v1074) rfl rfl rfl (Ex.move rfl rfl) ?_
          refine WL.call rfl rfl rfl (enterS eg51 (args := [v1074]) rfl rfl rfl rfl) (c_irreducible _ (normAt (lb ++ lc)) _ (hS.mem (.head _)) (by first | omega | (simp; done) | (simp; omega))) ?_
          rintro e W1078 ⟨rfl, hB⟩
          replace hS := hS.ext hB
          refine ⟨_, rfl, ?_⟩
          refine WL.op (v := .bool (!(decide (((normAt (normAt (lb ++ lc))).length : Int) = 1)))) rfl rfl rfl (Ex.not rfl rfl) ?_
          refine WL.op (v := .bool (!(decide (((normAt (normAt (lb ++ lc))).length : Int) = 1)))) rfl rfl rfl (Ex.move rfl rfl) ?_
          rcases Bool.eq_false_or_eq_true (!(decide (((normAt (normAt (lb ++ lc))).length : Int) = 1))) with hg1080 | hg1080
          ·
            have hc1081 : (decide (((normAt (normAt (lb ++ lc))).length : Int) = 1)) = false := by simpa using hg1080
            refine WL.off (b' := true) rfl rfl rfl rfl rfl rfl (congrArg Value.bool hg1080) rfl ?_
            refine WL.off (b' := true) rfl rfl rfl rfl rfl rfl (congrArg Value.bool hg1080) rfl ?_
            refine WL.off (b' := true) rfl rfl rfl rfl rfl rfl (congrArg Value.bool hg1080) rfl ?_
            refine WL.op (v := .bool true) rfl rfl rfl (Ex.pickT rfl (congrArg Value.bool hg1080) rfl) ?_
            refine WL.op (v := .bool true) rfl rfl rfl (Ex.move rfl rfl) ?_
            refine WL.off (b' := true) rfl rfl rfl rfl rfl rfl rfl rfl ?_
            refine WL.off (b' := true) rfl rfl rfl rfl rfl rfl rfl rfl ?_
            refine WL.off (b' := true) rfl rfl rfl rfl rfl rfl rfl rfl ?_
            refine WL.op (v := .bool true) rfl rfl rfl (Ex.pickT rfl rfl rfl) ?_
            refine WL.op (v := .bool true) rfl rfl rfl (Ex.move rfl rfl) ?_
            refine WL.on rfl rfl rfl rfl ?_
            refine WL.call rfl rfl rfl (enterS eg33 (args := []) rfl rfl rfl rfl) (c_alive11 _) ?_
            rintro e W1082 ⟨rfl, hB⟩
            replace hS := hS.ext hB
            refine ⟨_, rfl, ?_⟩
            refine WL.op (v := .bool true) rfl rfl rfl (Ex.pickT rfl rfl rfl) ?_
            refine WL.op (v := .bool true) rfl rfl rfl (Ex.assign rfl rfl) ?_
            refine WL.nil ?_
            refine then_normal ?_
            refine WP.ret ?_
            refine ?_
            refine rt1 (v := .bool true) rfl rfl ?_
            exact ⟨rfl, hS.bw⟩
          ·
            have hc1083 : (decide (((normAt (normAt (lb ++ lc))).length : Int) = 1)) = true := by simpa using hg1080
            refine WL.on rfl rfl rfl (congrArg Value.bool hg1080) ?_
            refine WL.op (v := v1074) rfl rfl rfl (Ex.move rfl rfl) ?_
            refine WL.on rfl rfl rfl (congrArg Value.bool hg1080) ?_
            refine WL.op (v := s2.v) rfl rfl rfl (Ex.move rfl rfl) ?_
            refine WL.on rfl rfl rfl (congrArg Value.bool hg1080) ?_
            refine WL.call rfl rfl rfl (enterS eg23 (args := [v1074, s2.v]) rfl rfl rfl rfl) (c_rsame _ _ (normAt (lb ++ lc)) lb _ (hS.mem (.head _)) (hS.mem (.tail _ (.tail _ (.tail _ (.tail _ (.tail _ (.tail _ (.head _)))))))) (by first | omega | (simp; done) | (simp; omega)) (by first | omega | (simp; done) | (simp; omega))) ?_
            rintro e W1084 ⟨rfl, hB⟩
            replace hS := hS.ext hB
            refine ⟨_, rfl, ?_⟩
            refine WL.op (v := .bool (decide (normAt (normAt (lb ++ lc)) = normAt lb))) rfl rfl rfl (Ex.pickF rfl (congrArg Value.bool hg1080) rfl) ?_
            refine WL.op (v := .bool (decide (normAt (normAt (lb ++ lc)) = normAt lb))) rfl rfl rfl (Ex.move rfl rfl) ?_
            rcases Bool.eq_false_or_eq_true (decide (normAt (normAt (lb ++ lc)) = normAt lb)) with hg1086 | hg1086
            ·
              have hg1086' : normAt (normAt (lb ++ lc)) = normAt lb := by simpa using hg1086
              refine WL.off (b' := true) rfl rfl rfl rfl rfl rfl (congrArg Value.bool hg1086) rfl ?_
              refine WL.off (b' := true) rfl rfl rfl rfl rfl rfl (congrArg Value.bool hg1086) rfl ?_
              refine WL.off (b' := true) rfl rfl rfl rfl rfl rfl (congrArg Value.bool hg1086) rfl ?_
              refine WL.op (v := .bool true) rfl rfl rfl (Ex.pickT rfl (congrArg Value.bool hg1086) rfl) ?_
              refine WL.op (v := .bool true) rfl rfl rfl (Ex.move rfl rfl) ?_
              refine WL.on rfl rfl rfl rfl ?_
              refine WL.call rfl rfl rfl (enterS eg33 (args := []) rfl rfl rfl rfl) (c_alive11 _) ?_
              rintro e W1087 ⟨rfl, hB⟩
              replace hS := hS.ext hB
              refine ⟨_, rfl, ?_⟩
              refine WL.op (v := .bool true) rfl rfl rfl (Ex.pickT rfl rfl rfl) ?_
              refine WL.op (v := .bool true) rfl rfl rfl (Ex.assign rfl rfl) ?_
              refine WL.nil ?_
              refine then_normal ?_
              refine WP.ret ?_
              refine ?_
              refine rt1 (v := .bool true) rfl rfl ?_
              exact ⟨rfl, hS.bw⟩
            ·
              have hg1086' : ¬ (normAt (normAt (lb ++ lc)) = normAt lb) := by simpa using hg1086
              refine WL.on rfl rfl rfl (congrArg Value.bool hg1086) ?_
              refine WL.op (v := v1074) rfl rfl rfl (Ex.move rfl rfl) ?_
              refine WL.on rfl rfl rfl (congrArg Value.bool hg1086) ?_
              refine WL.op (v := s3.v) rfl rfl rfl (Ex.move rfl rfl) ?_
              refine WL.on rfl rfl rfl (congrArg Value.bool hg1086) ?_
              refine WL.call rfl rfl rfl (enterS eg23 (args := [v1074, s3.v]) rfl rfl rfl rfl) (c_rsame _ _ (normAt (lb ++ lc)) lc _ (hS.mem (.head _)) (hS.mem (.tail _ (.tail _ (.tail _ (.tail _ (.tail _ (.tail _ (.tail _ (.head _))))))))) (by first | omega | (simp; done) | (simp; omega)) (by first | omega | (simp; done) | (simp; omega))) ?_
              rintro e W1088 ⟨rfl, hB⟩
              replace hS := hS.ext hB
              refine ⟨_, rfl, ?_⟩
              have ht1089 : (decide (normAt (normAt (lb ++ lc)) = normAt lc)) = true := decide_eq_true (dp_join (of_decide_eq_true hc1083) (of_decide_eq_false hg1086))
              refine WL.op (v := .bool (decide (normAt (normAt (lb ++ lc)) = normAt lc))) rfl rfl rfl (Ex.pickF rfl (congrArg Value.bool hg1086) rfl) ?_
              refine WL.op (v := .bool (decide (normAt (normAt (lb ++ lc)) = normAt lc))) rfl rfl rfl (Ex.move rfl rfl) ?_
              refine WL.on rfl rfl rfl (congrArg Value.bool ht1089) ?_
              refine WL.call rfl rfl rfl (enterS eg33 (args := []) rfl rfl rfl rfl) (c_alive11 _) ?_
              rintro e W1090 ⟨rfl, hB⟩
              replace hS := hS.ext hB
              refine ⟨_, rfl, ?_⟩
              refine WL.op (v := .bool true) rfl rfl rfl (Ex.pickT rfl (congrArg Value.bool ht1089) rfl) ?_
              refine WL.op (v := .bool true) rfl rfl rfl (Ex.assign rfl rfl) ?_
              refine WL.nil ?_
              refine then_normal ?_
              refine WP.ret ?_
              refine ?_
              refine rt1 (v := .bool true) rfl rfl ?_
              exact ⟨rfl, hS.bw⟩
theorem c_deltaParts (v1 v2 v3 : Value) (la lb lc : List At) (w : World) (ha : Sl w v1 la) (hb : Sl w v2 lb) (hc : Sl w v3 lc) : Calls Try.prog 10 #[v1, v2, v3] w fun e w' => e = .returned (.bool true) ∧ Bw w w' := by
  obtain ⟨p1, c1, rfl⟩ := ha.len
  obtain ⟨p2, c2, rfl⟩ := hb.len
  obtain ⟨p3, c3, rfl⟩ := hc.len
  exact c_deltaParts0 ⟨p1, _, c1⟩ ⟨p2, _, c2⟩ ⟨p3, _, c3⟩ la lb lc w ha hb hc
end Go.Proofs.Ythidakffgcjjiaa
