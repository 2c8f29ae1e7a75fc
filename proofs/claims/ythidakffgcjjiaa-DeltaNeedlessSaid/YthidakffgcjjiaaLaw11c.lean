/- The walk of DeltaNeedless. -/
import Derived.Test.YthidakffgcjjiaaLaw11
import Derived.Test.YthidakffgcjjiaaRef11
namespace Go.Proofs.Ythidakffgcjjiaa
open Go.RowKit Go.Sort

set_option maxRecDepth 100000 in
set_option maxHeartbeats 4000000 in
theorem c_deltaNeedless (v : Value) (rs : List Sv) (ls : List (List At)) (w : World) (hv : Sl w v rs) (hs : SS w rs ls) (hlen : rs.length = ls.length) (hc : Capd v) :
    Calls Try.prog 7 #[v] w fun e w' => e = .returned (.bool true) ∧ Bw w w' := by
  have hS := St.begin (w := w) (pins := pinSl v rs :: pinSS rs ls :: []) ⟨hv, hs, trivial⟩
  refine enter (n := 22) Try.func7 rfl rfl (Nat.le_of_ble_eq_true rfl) (l := [(0, v)]) rfl ?_
  refine WP.seq ?_
  refine WP.region ?_
  refine WL.op (v := .bool false) rfl rfl rfl (Ex.assign rfl rfl) ?_
  refine WL.nil ?_
  refine then_normal ?_
  refine WP.seq ?_
  refine WP.seq ?_
  refine WP.region ?_
  refine WL.op (v := v) rfl rfl rfl (Ex.move rfl rfl) ?_
  refine WL.call rfl rfl rfl (enterS eg37 (args := [v]) rfl rfl rfl rfl) (c_light _ rs ls _ (hS.mem (.head _)) (hS.mem (.tail _ (.head _))) hlen) ?_
  rintro e W1227 ⟨rfl, hB⟩
  replace hS := hS.ext hB
  refine ⟨_, rfl, ?_⟩
  refine WL.op (v := .bool (!(lightAt ls))) rfl rfl rfl (Ex.not rfl rfl) ?_
  refine WL.nil ?_
  refine then_normal ?_
  refine WP.cond (b := !(lightAt ls)) rfl (fun hc1229 => ?_) (fun hc1229 => ?_)
  ·
    have hc1230 : (lightAt ls) = false := by simpa using hc1229
    refine WP.seq ?_
    refine WP.region ?_
    refine WL.call rfl rfl rfl (enterS eg33 (args := []) rfl rfl rfl rfl) (c_alive11 _) ?_
    rintro e W1231 ⟨rfl, hB⟩
    replace hS := hS.ext hB
    refine ⟨_, rfl, ?_⟩
    refine WL.op (v := .bool true) rfl rfl rfl (Ex.assign rfl rfl) ?_
    refine WL.nil ?_
    refine then_normal ?_
    refine WP.ret ?_
    refine then_ret (?_)
    refine rt1 (v := .bool true) rfl rfl ?_
    exact ⟨rfl, hS.bw⟩
  ·
    have hc1232 : (lightAt ls) = true := by simpa using hc1229
    have hL0 : lightAt ls = true := by simpa using hc1229
    obtain ⟨hL1, hL2⟩ := light_len hL0
    have hl2 : ls.flatten.length ≤ 1048576 := by omega
    have hL8 : rs.length ≤ 1048576 := by omega
    refine WP.skip ?_
    refine then_normal ?_
    refine WP.seq ?_
    refine WP.region ?_
    refine WL.op (v := v) rfl rfl rfl (Ex.move rfl rfl) ?_
    refine WL.call rfl rfl rfl (enterS eg38 (args := [v]) rfl rfl rfl rfl) (c_irredundant _ rs ls _ (hS.mem (.head _)) (hS.mem (.tail _ (.head _))) hlen (hc) hL8 (hl2)) ?_
    rintro e W1233 ⟨rfl, hB⟩
    replace hS := hS.ext hB
    refine ⟨_, rfl, ?_⟩
    refine WL.op (v := v) rfl rfl rfl (Ex.move rfl rfl) ?_
    refine WL.call rfl rfl rfl (enterS eg39 (args := [v]) rfl rfl rfl rfl) (c_rirredundant _ rs ls _ (hS.mem (.head _)) (hS.mem (.tail _ (.head _))) hlen (hc) hL8 (hl2)) ?_
    rintro e W1235 ⟨rfl, hB⟩
    replace hS := hS.ext hB
    refine ⟨_, rfl, ?_⟩
    refine WL.op (v := .bool ((irredAt ls) == (irredAt ls))) rfl rfl rfl (Ex.binop rfl rfl rfl (eqlB4 _ _ _ _ _)) ?_
    have ht1237 : ((irredAt ls) == (irredAt ls)) = true := beq_self_eq_true _
    refine WL.op (v := .bool ((irredAt ls) == (irredAt ls))) rfl rfl rfl (Ex.move rfl rfl) ?_
    refine WL.on rfl rfl rfl (congrArg Value.bool ht1237) ?_
    refine WL.op (v := v) rfl rfl rfl (Ex.move rfl rfl) ?_
    refine WL.on rfl rfl rfl (congrArg Value.bool ht1237) ?_
    refine WL.call rfl rfl rfl (enterS eg35 (args := [v]) rfl rfl rfl rfl) (c_needless _ rs ls _ (hS.mem (.head _)) (hS.mem (.tail _ (.head _))) hlen (hc) hL8 (hl2)) ?_
    rintro e W1240 ⟨v1238, rfl, hB, hv', hn1239⟩
    replace hS := hS.newPin hB (pinSl v1238 (needF ls ls.length).1) hv' hn1239
    refine ⟨_, rfl, ?_⟩
    refine WL.on rfl rfl rfl (congrArg Value.bool ht1237) ?_
    refine WL.op (v := v) rfl rfl rfl (Ex.move rfl rfl) ?_
    refine WL.on rfl rfl rfl (congrArg Value.bool ht1237) ?_
    refine WL.call rfl rfl rfl (enterS eg41 (args := [v]) rfl rfl rfl rfl) (c_rneedless _ rs ls _ (hS.mem (.tail _ (.head _))) (hS.mem (.tail _ (.tail _ (.head _)))) hlen (hc) hL8 (hl2)) ?_
    rintro e W1243 ⟨v1241, rfl, hB, hv', hn1242⟩
    replace hS := hS.newPin hB (pinSl v1241 (needF ls ls.length).1) hv' hn1242
    refine ⟨_, rfl, ?_⟩
    refine WL.on rfl rfl rfl (congrArg Value.bool ht1237) ?_
    refine WL.call rfl rfl rfl (enterS eg40 (args := [v1238, v1241]) rfl rfl rfl rfl) (c_isame _ _ ((needF ls ls.length).1) ((needF ls ls.length).1) _ (hS.mem (.tail _ (.head _))) (hS.mem (.head _))) ?_
    rintro e W1244 ⟨rfl, hB⟩
    replace hS := hS.ext hB
    refine ⟨_, rfl, ?_⟩
    have ht1245 : (decide ((needF ls ls.length).1 = (needF ls ls.length).1)) = true := decide_eq_true rfl
    refine WL.op (v := .bool (decide ((needF ls ls.length).1 = (needF ls ls.length).1))) rfl rfl rfl (Ex.pickT rfl (congrArg Value.bool ht1237) rfl) ?_
    refine WL.op (v := .bool (decide ((needF ls ls.length).1 = (needF ls ls.length).1))) rfl rfl rfl (Ex.move rfl rfl) ?_
    refine WL.on rfl rfl rfl (congrArg Value.bool ht1245) ?_
    refine WL.call rfl rfl rfl (enterS eg33 (args := []) rfl rfl rfl rfl) (c_alive11 _) ?_
    rintro e W1246 ⟨rfl, hB⟩
    replace hS := hS.ext hB
    refine ⟨_, rfl, ?_⟩
    refine WL.op (v := .bool true) rfl rfl rfl (Ex.pickT rfl (congrArg Value.bool ht1245) rfl) ?_
    refine WL.op (v := .bool true) rfl rfl rfl (Ex.assign rfl rfl) ?_
    refine WL.nil ?_
    refine then_normal ?_
    refine WP.ret ?_
    refine ?_
    refine rt1 (v := .bool true) rfl rfl ?_
    exact ⟨rfl, hS.bw⟩
end Go.Proofs.Ythidakffgcjjiaa
