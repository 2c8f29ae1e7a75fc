/- The document's names: walks of its layer 6, and of its keys (8) and values (9). -/
import Derived.Test.YthidakffgcjjiaaTys
import Derived.Test.YthidakffgcjjiaaRange
import Derived.Test.YthidakffgcjjiaaNorm
import Derived.Test.YthidakffgcjjiaaRefLaws
namespace Go.Proofs.Ythidakffgcjjiaa
open Go.RowKit Go.Sort

set_option maxRecDepth 100000 in
set_option maxHeartbeats 1000000 in
theorem c_rletter (c : UInt8) (w : World) :
    Calls Try.prog 126 #[.int .u8 (c.toNat : Int)] w fun e w' => e = .returned (.bool (isLetter c)) ∧ Bw w w' := by
  have hS := St.begin (w := w) (pins := []) trivial
  refine enter (n := 9) Try.func126 rfl rfl (Nat.le_of_ble_eq_true rfl) (l := [(0, .int .u8 (c.toNat : Int))]) rfl ?_
  refine WP.seq ?_
  refine WP.region ?_
  refine WL.op (v := .bool false) rfl rfl rfl (Ex.assign rfl rfl) ?_
  refine WL.nil ?_
  refine then_normal ?_
  refine WP.seq ?_
  refine WP.region ?_
  refine WL.op (v := .int .u8 (c.toNat : Int)) rfl rfl rfl (Ex.move rfl rfl) ?_
  refine WL.op (v := .bool (decide (97 ≤ (c.toNat : Int)))) rfl rfl rfl (Ex.ge rfl rfl rfl) ?_
  refine WL.op (v := .bool (decide (97 ≤ (c.toNat : Int)))) rfl rfl rfl (Ex.move rfl rfl) ?_
  rcases Bool.eq_false_or_eq_true (decide (97 ≤ (c.toNat : Int))) with hg1 | hg1
  ·
    have hg1' : 97 ≤ (c.toNat : Int) := by simpa using hg1
    refine WL.on rfl rfl rfl (congrArg Value.bool hg1) ?_
    refine WL.op (v := .int .u8 (c.toNat : Int)) rfl rfl rfl (Ex.move rfl rfl) ?_
    refine WL.on rfl rfl rfl (congrArg Value.bool hg1) ?_
    refine WL.op (v := .bool (decide ((c.toNat : Int) ≤ 122))) rfl rfl rfl (Ex.le rfl rfl rfl) ?_
    refine WL.op (v := .bool (decide ((c.toNat : Int) ≤ 122))) rfl rfl rfl (Ex.pickT rfl (congrArg Value.bool hg1) rfl) ?_
    refine WL.op (v := .bool (decide ((c.toNat : Int) ≤ 122))) rfl rfl rfl (Ex.assign rfl rfl) ?_
    refine WL.nil ?_
    refine then_normal ?_
    refine WP.ret ?_
    refine ?_
    refine rt1 (v := .bool (decide ((c.toNat : Int) ≤ 122))) rfl rfl ?_
    exact ⟨retb (by first | exact let_f (by assumption) | exact let_d (by assumption)), hS.bw⟩
  ·
    have hg1' : ¬ (97 ≤ (c.toNat : Int)) := by simpa using hg1
    refine WL.off (b' := false) rfl rfl rfl rfl rfl rfl (congrArg Value.bool hg1) rfl ?_
    refine WL.off (b' := false) rfl rfl rfl rfl rfl rfl (congrArg Value.bool hg1) rfl ?_
    refine WL.op (v := .bool false) rfl rfl rfl (Ex.pickF rfl (congrArg Value.bool hg1) rfl) ?_
    refine WL.op (v := .bool false) rfl rfl rfl (Ex.assign rfl rfl) ?_
    refine WL.nil ?_
    refine then_normal ?_
    refine WP.ret ?_
    refine ?_
    refine rt1 (v := .bool false) rfl rfl ?_
    exact ⟨retb (by first | exact let_f (by assumption) | exact let_d (by assumption)), hS.bw⟩
set_option maxRecDepth 100000 in
set_option maxHeartbeats 1000000 in
theorem c_rother (c : UInt8) (w : World) :
    Calls Try.prog 127 #[.int .u8 (c.toNat : Int)] w fun e w' => e = .returned (.bool (isOther c)) ∧ Bw w w' := by
  have hS := St.begin (w := w) (pins := []) trivial
  refine enter (n := 17) Try.func127 rfl rfl (Nat.le_of_ble_eq_true rfl) (l := [(0, .int .u8 (c.toNat : Int))]) rfl ?_
  refine WP.seq ?_
  refine WP.region ?_
  refine WL.op (v := .bool false) rfl rfl rfl (Ex.assign rfl rfl) ?_
  refine WL.nil ?_
  refine then_normal ?_
  refine WP.seq ?_
  refine WP.region ?_
  refine WL.op (v := .int .u8 (c.toNat : Int)) rfl rfl rfl (Ex.move rfl rfl) ?_
  refine WL.call rfl rfl rfl (enterS eg126 (args := [.int .u8 (c.toNat : Int)]) rfl rfl rfl rfl) (c_rletter c _) ?_
  rintro e W2 ⟨rfl, hB⟩
  replace hS := hS.ext hB
  refine ⟨_, rfl, ?_⟩
  refine WL.op (v := .bool (isLetter c)) rfl rfl rfl (Ex.move rfl rfl) ?_
  rcases Bool.eq_false_or_eq_true (isLetter c) with hg3 | hg3
  ·
    refine WL.off (b' := true) rfl rfl rfl rfl rfl rfl (congrArg Value.bool hg3) rfl ?_
    refine WL.off (b' := true) rfl rfl rfl rfl rfl rfl (congrArg Value.bool hg3) rfl ?_
    refine WL.off (b' := true) rfl rfl rfl rfl rfl rfl (congrArg Value.bool hg3) rfl ?_
    refine WL.offU rfl rfl rfl rfl rfl rfl ?_
    refine WL.offU rfl rfl rfl rfl rfl rfl ?_
    refine WL.off (b' := true) rfl rfl rfl rfl rfl rfl (congrArg Value.bool hg3) rfl ?_
    refine WL.op (v := .bool true) rfl rfl rfl (Ex.pickT rfl (congrArg Value.bool hg3) rfl) ?_
    refine WL.op (v := .bool true) rfl rfl rfl (Ex.move rfl rfl) ?_
    refine WL.off (b' := true) rfl rfl rfl rfl rfl rfl rfl rfl ?_
    refine WL.off (b' := true) rfl rfl rfl rfl rfl rfl rfl rfl ?_
    refine WL.op (v := .bool true) rfl rfl rfl (Ex.pickT rfl rfl rfl) ?_
    refine WL.op (v := .bool true) rfl rfl rfl (Ex.assign rfl rfl) ?_
    refine WL.nil ?_
    refine then_normal ?_
    refine WP.ret ?_
    refine ?_
    refine rt1 (v := .bool true) rfl rfl ?_
    exact ⟨retb (by first | exact oth1 (by assumption) | exact oth2 (by omega) (by omega) | exact oth3 (by assumption) (by omega)), hS.bw⟩
  ·
    refine WL.on rfl rfl rfl (congrArg Value.bool hg3) ?_
    refine WL.op (v := .int .u8 (c.toNat : Int)) rfl rfl rfl (Ex.move rfl rfl) ?_
    refine WL.on rfl rfl rfl (congrArg Value.bool hg3) ?_
    refine WL.op (v := .bool (decide (48 ≤ (c.toNat : Int)))) rfl rfl rfl (Ex.ge rfl rfl rfl) ?_
    refine WL.on rfl rfl rfl (congrArg Value.bool hg3) ?_
    refine WL.op (v := .bool (decide (48 ≤ (c.toNat : Int)))) rfl rfl rfl (Ex.move rfl rfl) ?_
    rcases Bool.eq_false_or_eq_true (decide (48 ≤ (c.toNat : Int))) with hg4 | hg4
    ·
      have hg4' : 48 ≤ (c.toNat : Int) := by simpa using hg4
      refine WL.on rfl rfl rfl (congrArg Value.bool hg4) ?_
      refine WL.op (v := .int .u8 (c.toNat : Int)) rfl rfl rfl (Ex.move rfl rfl) ?_
      refine WL.on rfl rfl rfl (congrArg Value.bool hg4) ?_
      refine WL.op (v := .bool (decide ((c.toNat : Int) ≤ 57))) rfl rfl rfl (Ex.le rfl rfl rfl) ?_
      refine WL.on rfl rfl rfl (congrArg Value.bool hg3) ?_
      refine WL.op (v := .bool (decide ((c.toNat : Int) ≤ 57))) rfl rfl rfl (Ex.pickT rfl (congrArg Value.bool hg4) rfl) ?_
      refine WL.op (v := .bool (decide ((c.toNat : Int) ≤ 57))) rfl rfl rfl (Ex.pickF rfl (congrArg Value.bool hg3) rfl) ?_
      refine WL.op (v := .bool (decide ((c.toNat : Int) ≤ 57))) rfl rfl rfl (Ex.move rfl rfl) ?_
      rcases Bool.eq_false_or_eq_true (decide ((c.toNat : Int) ≤ 57)) with hg5 | hg5
      ·
        have hg5' : (c.toNat : Int) ≤ 57 := by simpa using hg5
        refine WL.off (b' := true) rfl rfl rfl rfl rfl rfl (congrArg Value.bool hg5) rfl ?_
        refine WL.off (b' := true) rfl rfl rfl rfl rfl rfl (congrArg Value.bool hg5) rfl ?_
        refine WL.op (v := .bool true) rfl rfl rfl (Ex.pickT rfl (congrArg Value.bool hg5) rfl) ?_
        refine WL.op (v := .bool true) rfl rfl rfl (Ex.assign rfl rfl) ?_
        refine WL.nil ?_
        refine then_normal ?_
        refine WP.ret ?_
        refine ?_
        refine rt1 (v := .bool true) rfl rfl ?_
        exact ⟨retb (by first | exact oth1 (by assumption) | exact oth2 (by omega) (by omega) | exact oth3 (by assumption) (by omega)), hS.bw⟩
      ·
        have hg5' : ¬ ((c.toNat : Int) ≤ 57) := by simpa using hg5
        refine WL.on rfl rfl rfl (congrArg Value.bool hg5) ?_
        refine WL.op (v := .int .u8 (c.toNat : Int)) rfl rfl rfl (Ex.move rfl rfl) ?_
        refine WL.on rfl rfl rfl (congrArg Value.bool hg5) ?_
        refine WL.op (v := .bool (decide ((c.toNat : Int) = 45))) rfl rfl rfl (Ex.eq rfl rfl rfl) ?_
        refine WL.op (v := .bool (decide ((c.toNat : Int) = 45))) rfl rfl rfl (Ex.pickF rfl (congrArg Value.bool hg5) rfl) ?_
        refine WL.op (v := .bool (decide ((c.toNat : Int) = 45))) rfl rfl rfl (Ex.assign rfl rfl) ?_
        refine WL.nil ?_
        refine then_normal ?_
        refine WP.ret ?_
        refine ?_
        refine rt1 (v := .bool (decide ((c.toNat : Int) = 45))) rfl rfl ?_
        exact ⟨retb (by first | exact oth1 (by assumption) | exact oth2 (by omega) (by omega) | exact oth3 (by assumption) (by omega)), hS.bw⟩
    ·
      have hg4' : ¬ (48 ≤ (c.toNat : Int)) := by simpa using hg4
      refine WL.off (b' := false) rfl rfl rfl rfl rfl rfl (congrArg Value.bool hg4) rfl ?_
      refine WL.off (b' := false) rfl rfl rfl rfl rfl rfl (congrArg Value.bool hg4) rfl ?_
      refine WL.on rfl rfl rfl (congrArg Value.bool hg3) ?_
      refine WL.op (v := .bool false) rfl rfl rfl (Ex.pickF rfl (congrArg Value.bool hg4) rfl) ?_
      refine WL.op (v := .bool false) rfl rfl rfl (Ex.pickF rfl (congrArg Value.bool hg3) rfl) ?_
      refine WL.op (v := .bool false) rfl rfl rfl (Ex.move rfl rfl) ?_
      refine WL.on rfl rfl rfl rfl ?_
      refine WL.op (v := .int .u8 (c.toNat : Int)) rfl rfl rfl (Ex.move rfl rfl) ?_
      refine WL.on rfl rfl rfl rfl ?_
      refine WL.op (v := .bool (decide ((c.toNat : Int) = 45))) rfl rfl rfl (Ex.eq rfl rfl rfl) ?_
      refine WL.op (v := .bool (decide ((c.toNat : Int) = 45))) rfl rfl rfl (Ex.pickF rfl rfl rfl) ?_
      refine WL.op (v := .bool (decide ((c.toNat : Int) = 45))) rfl rfl rfl (Ex.assign rfl rfl) ?_
      refine WL.nil ?_
      refine then_normal ?_
      refine WP.ret ?_
      refine ?_
      refine rt1 (v := .bool (decide ((c.toNat : Int) = 45))) rfl rfl ?_
      exact ⟨retb (by first | exact oth1 (by assumption) | exact oth2 (by omega) (by omega) | exact oth3 (by assumption) (by omega)), hS.bw⟩
set_option maxRecDepth 100000 in
set_option maxHeartbeats 1000000 in
theorem c_ris (l : List UInt8) (w : World) (hl : l.length < 4611686018427387904) :
    Calls Try.prog 94 #[.string (bytesOf l)] w fun e w' => e = .returned (.bool (textRight l)) ∧ Bw w w' := by
  have hS := St.begin (w := w) (pins := []) trivial
  refine enter (n := 29) Try.func94 rfl rfl (Nat.le_of_ble_eq_true rfl) (l := [(0, .string (bytesOf l))]) rfl ?_
  refine WP.seq ?_
  refine WP.region ?_
  refine WL.op (v := .bool false) rfl rfl rfl (Ex.assign rfl rfl) ?_
  refine WL.nil ?_
  refine then_normal ?_
  refine WP.seq ?_
  refine WP.seq ?_
  refine WP.region ?_
  refine WL.op (v := .string (bytesOf l)) rfl rfl rfl (Ex.move rfl rfl) ?_
  refine WL.op (v := .int .i64 (l.length : Int)) rfl rfl rfl (Ex.lenStr (l := l) undr9 rfl rfl) ?_
  refine WL.op (v := .bool (decide ((l.length : Int) < 1))) rfl rfl rfl (Ex.lt rfl rfl rfl) ?_
  refine WL.op (v := .bool (decide ((l.length : Int) < 1))) rfl rfl rfl (Ex.move rfl rfl) ?_
  rcases Bool.eq_false_or_eq_true (decide ((l.length : Int) < 1)) with hg6 | hg6
  ·
    have hg6' : (l.length : Int) < 1 := by simpa using hg6
    refine WL.off (b' := true) rfl rfl rfl rfl rfl rfl (congrArg Value.bool hg6) rfl ?_
    refine WL.off (b' := true) rfl rfl rfl rfl rfl rfl (congrArg Value.bool hg6) rfl ?_
    refine WL.off (b' := true) rfl rfl rfl rfl rfl rfl (congrArg Value.bool hg6) rfl ?_
    refine WL.op (v := .bool true) rfl rfl rfl (Ex.pickT rfl (congrArg Value.bool hg6) rfl) ?_
    refine WL.op (v := .bool true) rfl rfl rfl (Ex.move rfl rfl) ?_
    refine WL.off (b' := true) rfl rfl rfl rfl rfl rfl rfl rfl ?_
    refine WL.off (b' := true) rfl rfl rfl rfl rfl rfl rfl rfl ?_
    refine WL.off (b' := true) rfl rfl rfl rfl rfl rfl rfl rfl ?_
    refine WL.off (b' := true) rfl rfl rfl rfl rfl rfl rfl rfl ?_
    refine WL.op (v := .bool true) rfl rfl rfl (Ex.pickT rfl rfl rfl) ?_
    refine WL.nil ?_
    refine then_normal ?_
    refine WP.condT rfl ?_
    refine WP.seq ?_
    refine WP.region ?_
    refine WL.op (v := .bool false) rfl rfl rfl (Ex.assign rfl rfl) ?_
    refine WL.nil ?_
    refine then_normal ?_
    refine WP.ret ?_
    refine then_ret (?_)
    refine rt1 (v := .bool false) rfl rfl ?_
    exact ⟨retb (by first | exact tr_short (by assumption) | exact tr_long (by assumption) | exact tr_let (by assumption) (by assumption) | exact tr_oth (by assumption) (by assumption) | (have hall' : l.all isOther = true := (by rw [show k = l.length by omega, List.take_length] at hall; exact hall); exact tr_all (by assumption) (by assumption) (by assumption) (by assumption) hall')), hS.bw⟩
  ·
    have hg6' : ¬ ((l.length : Int) < 1) := by simpa using hg6
    refine WL.on rfl rfl rfl (congrArg Value.bool hg6) ?_
    refine WL.op (v := .string (bytesOf l)) rfl rfl rfl (Ex.move rfl rfl) ?_
    refine WL.on rfl rfl rfl (congrArg Value.bool hg6) ?_
    refine WL.op (v := .int .i64 (l.length : Int)) rfl rfl rfl (Ex.lenStr (l := l) undr9 rfl rfl) ?_
    refine WL.on rfl rfl rfl (congrArg Value.bool hg6) ?_
    refine WL.op (v := .bool (decide (8 < (l.length : Int)))) rfl rfl rfl (Ex.gt rfl rfl rfl) ?_
    refine WL.op (v := .bool (decide (8 < (l.length : Int)))) rfl rfl rfl (Ex.pickF rfl (congrArg Value.bool hg6) rfl) ?_
    refine WL.op (v := .bool (decide (8 < (l.length : Int)))) rfl rfl rfl (Ex.move rfl rfl) ?_
    rcases Bool.eq_false_or_eq_true (decide (8 < (l.length : Int))) with hg7 | hg7
    ·
      have hg7' : 8 < (l.length : Int) := by simpa using hg7
      refine WL.off (b' := true) rfl rfl rfl rfl rfl rfl (congrArg Value.bool hg7) rfl ?_
      refine WL.off (b' := true) rfl rfl rfl rfl rfl rfl (congrArg Value.bool hg7) rfl ?_
      refine WL.off (b' := true) rfl rfl rfl rfl rfl rfl (congrArg Value.bool hg7) rfl ?_
      refine WL.off (b' := true) rfl rfl rfl rfl rfl rfl (congrArg Value.bool hg7) rfl ?_
      refine WL.op (v := .bool true) rfl rfl rfl (Ex.pickT rfl (congrArg Value.bool hg7) rfl) ?_
      refine WL.nil ?_
      refine then_normal ?_
      refine WP.condT rfl ?_
      refine WP.seq ?_
      refine WP.region ?_
      refine WL.op (v := .bool false) rfl rfl rfl (Ex.assign rfl rfl) ?_
      refine WL.nil ?_
      refine then_normal ?_
      refine WP.ret ?_
      refine then_ret (?_)
      refine rt1 (v := .bool false) rfl rfl ?_
      exact ⟨retb (by first | exact tr_short (by assumption) | exact tr_long (by assumption) | exact tr_let (by assumption) (by assumption) | exact tr_oth (by assumption) (by assumption) | (have hall' : l.all isOther = true := (by rw [show k = l.length by omega, List.take_length] at hall; exact hall); exact tr_all (by assumption) (by assumption) (by assumption) (by assumption) hall')), hS.bw⟩
    ·
      have hg7' : ¬ (8 < (l.length : Int)) := by simpa using hg7
      refine WL.on rfl rfl rfl (congrArg Value.bool hg7) ?_
      refine WL.op (v := .string (bytesOf l)) rfl rfl rfl (Ex.move rfl rfl) ?_
      refine WL.on rfl rfl rfl (congrArg Value.bool hg7) ?_
      obtain ⟨c8, hc9⟩ : ∃ c, l[0]? = some c := ⟨l[0]'(by omega), by simp⟩
      refine WL.op (v := .int .u8 (c8.toNat : Int)) rfl rfl rfl (Ex.indexStr (l := l) (k := 0) undr9 hc9 rfl rfl rfl) ?_
      refine WL.on rfl rfl rfl (congrArg Value.bool hg7) ?_
      refine WL.call rfl rfl rfl (enterS eg126 (args := [.int .u8 (c8.toNat : Int)]) rfl rfl rfl rfl) (c_rletter c8 _) ?_
      rintro e W10 ⟨rfl, hB⟩
      replace hS := hS.ext hB
      refine ⟨_, rfl, ?_⟩
      refine WL.on rfl rfl rfl (congrArg Value.bool hg7) ?_
      refine WL.op (v := .bool (!(isLetter c8))) rfl rfl rfl (Ex.not rfl rfl) ?_
      refine WL.op (v := .bool (!(isLetter c8))) rfl rfl rfl (Ex.pickF rfl (congrArg Value.bool hg7) rfl) ?_
      refine WL.nil ?_
      refine then_normal ?_
      refine WP.cond (b := !(isLetter c8)) rfl (fun hc11 => ?_) (fun hc11 => ?_)
      ·
        have hc12 : (isLetter c8) = false := by simpa using hc11
        refine WP.seq ?_
        refine WP.region ?_
        refine WL.op (v := .bool false) rfl rfl rfl (Ex.assign rfl rfl) ?_
        refine WL.nil ?_
        refine then_normal ?_
        refine WP.ret ?_
        refine then_ret (?_)
        refine rt1 (v := .bool false) rfl rfl ?_
        exact ⟨retb (by first | exact tr_short (by assumption) | exact tr_long (by assumption) | exact tr_let (by assumption) (by assumption) | exact tr_oth (by assumption) (by assumption) | (have hall' : l.all isOther = true := (by rw [show k = l.length by omega, List.take_length] at hall; exact hall); exact tr_all (by assumption) (by assumption) (by assumption) (by assumption) hall')), hS.bw⟩
      ·
        have hc13 : (isLetter c8) = true := by simpa using hc11
        refine WP.skip ?_
        refine then_normal ?_
        refine WP.seq ?_
        refine WP.seq ?_
        refine WP.region ?_
        refine WL.op (v := .int .i64 0) rfl rfl rfl (Ex.assign rfl rfl) ?_
        refine WL.nil ?_
        refine then_normal ?_
        refine WP.block ?_
        refine WP.loop (fun (μ : Nat) a W => ∃ (k : Nat), ∃ (l0 : Fr), a = fr 29 [] ([(0, .string (bytesOf l)), (3, .int .i64 (k : Int))] ++ l0) ∧ μ = l.length - k ∧ k ≤ l.length ∧ St w ([]) ([]) W ∧ ((l.take k).all isOther = true)) id _ ⟨0, _, fr_keep ⟨rfl, rfl, trivial⟩, rfl, by omega, hS, rfl⟩ ?_
        rintro μ a W14 ⟨k, l0, rfl, rfl, hk, hS, hall⟩
        refine WP.seq ?_
        refine WP.seq ?_
        refine WP.region ?_
        refine WL.op (v := .int .i64 (k : Int)) rfl rfl rfl (Ex.move rfl rfl) ?_
        refine WL.op (v := .string (bytesOf l)) rfl rfl rfl (Ex.move rfl rfl) ?_
        refine WL.op (v := .int .i64 (l.length : Int)) rfl rfl rfl (Ex.lenStr (l := l) undr9 rfl rfl) ?_
        refine WL.op (v := .bool (decide ((k : Int) < (l.length : Int)))) rfl rfl rfl (Ex.lt rfl rfl rfl) ?_
        refine WL.nil ?_
        refine then_normal ?_
        refine WP.cond (b := decide ((k : Int) < (l.length : Int))) rfl (fun hc15 => ?_) (fun hc15 => ?_)
        ·
          have hc15' : (k : Int) < (l.length : Int) := by simpa using hc15
          refine WP.skip ?_
          refine then_normal ?_
          refine WP.seq ?_
          refine WP.block ?_
          refine WP.seq ?_
          refine WP.region ?_
          refine WL.op (v := .string (bytesOf l)) rfl rfl rfl (Ex.move rfl rfl) ?_
          refine WL.op (v := .int .i64 (k : Int)) rfl rfl rfl (Ex.move rfl rfl) ?_
          obtain ⟨c16, hc17⟩ : ∃ c, l[k]? = some c := ⟨l[k]'(by omega), by simp⟩
          refine WL.op (v := .int .u8 (c16.toNat : Int)) rfl rfl rfl (Ex.indexStr (l := l) (k := k) undr9 hc17 rfl rfl rfl) ?_
          refine WL.call rfl rfl rfl (enterS eg127 (args := [.int .u8 (c16.toNat : Int)]) rfl rfl rfl rfl) (c_rother c16 _) ?_
          rintro e W18 ⟨rfl, hB⟩
          replace hS := hS.ext hB
          refine ⟨_, rfl, ?_⟩
          refine WL.op (v := .bool (!(isOther c16))) rfl rfl rfl (Ex.not rfl rfl) ?_
          refine WL.nil ?_
          refine then_normal ?_
          refine WP.cond (b := !(isOther c16)) rfl (fun hc19 => ?_) (fun hc19 => ?_)
          ·
            have hc20 : (isOther c16) = false := by simpa using hc19
            refine WP.seq ?_
            refine WP.region ?_
            refine WL.op (v := .bool false) rfl rfl rfl (Ex.assign rfl rfl) ?_
            refine WL.nil ?_
            refine then_normal ?_
            refine WP.ret ?_
            refine inBlock_ret (then_ret (then_ret (inBlock_ret (then_ret (?_)))))
            refine rt1 (v := .bool false) rfl rfl ?_
            exact ⟨retb (by first | exact tr_short (by assumption) | exact tr_long (by assumption) | exact tr_let (by assumption) (by assumption) | exact tr_oth (by assumption) (by assumption) | (have hall' : l.all isOther = true := (by rw [show k = l.length by omega, List.take_length] at hall; exact hall); exact tr_all (by assumption) (by assumption) (by assumption) (by assumption) hall')), hS.bw⟩
          ·
            have hc21 : (isOther c16) = true := by simpa using hc19
            refine WP.skip ?_
            refine inBlock_normal ?_
            refine then_normal ?_
            refine WP.region ?_
            refine WL.op (v := .int .i64 (k : Int)) rfl rfl rfl (Ex.move rfl rfl) ?_
            refine WL.op (v := .int .i64 ((k + 1 : Nat) : Int)) rfl rfl rfl (Ex.add rfl rfl rfl (wrap_succ (by omega))) ?_
            refine WL.op (v := .int .i64 ((k + 1 : Nat) : Int)) rfl rfl rfl (Ex.assign rfl rfl) ?_
            refine WL.nil ?_
            refine then_normal ?_
            exact ⟨_, ⟨k + 1, _, fr_keep ⟨rfl, rfl, trivial⟩, rfl, by omega, hS, all_next hc17 hall (by rw [hc21])⟩, by simp only [id]; omega⟩
        ·
          have hc15' : ¬ ((k : Int) < (l.length : Int)) := by simpa using hc15
          refine WP.exit ?_
          refine then_exit (then_exit (inBlock_same (?_)))
          refine then_normal ?_
          refine WP.seq ?_
          refine WP.region ?_
          refine WL.op (v := .bool true) rfl rfl rfl (Ex.assign rfl rfl) ?_
          refine WL.nil ?_
          refine then_normal ?_
          refine WP.ret ?_
          refine ?_
          refine rt1 (v := .bool true) rfl rfl ?_
          exact ⟨retb (by first | exact tr_short (by assumption) | exact tr_long (by assumption) | exact tr_let (by assumption) (by assumption) | exact tr_oth (by assumption) (by assumption) | (have hall' : l.all isOther = true := (by rw [show k = l.length by omega, List.take_length] at hall; exact hall); exact tr_all (by assumption) (by assumption) (by assumption) (by assumption) hall')), hS.bw⟩
set_option maxRecDepth 100000 in
set_option maxHeartbeats 1000000 in
theorem c_rtext (n : Nm) (w : World) :
    Calls Try.prog 95 #[.agg n.enc] w fun e w' => e = .returned (.string (bytesOf n.text)) ∧ Bw w w' := by
  have hS := St.begin (w := w) (pins := []) trivial
  refine enter (n := 23) Try.func95 rfl rfl (Nat.le_of_ble_eq_true rfl) (l := [(0, .agg n.enc)]) rfl ?_
  refine WP.seq ?_
  refine WP.region ?_
  refine WL.box (v := .agg n.enc) hS rfl rfl rfl rfl rfl (fun b22 W23 hS => ?_)
  refine WL.op (v := .string (bytesOf ([]))) rfl rfl rfl (Ex.assign rfl rfl) ?_
  refine WL.nil ?_
  refine then_normal ?_
  refine WP.seq ?_
  refine WP.region ?_
  refine WL.op (v := .string (bytesOf ([]))) rfl rfl rfl (Ex.assign rfl rfl) ?_
  refine WL.nil ?_
  refine then_normal ?_
  refine WP.seq ?_
  refine WP.seq ?_
  refine WP.region ?_
  refine WL.op (v := .int .i64 0) rfl rfl rfl (Ex.assign rfl rfl) ?_
  refine WL.nil ?_
  refine then_normal ?_
  refine WP.block ?_
  refine WP.loop (fun (μ : Nat) a W => ∃ (k : Nat), ∃ (st : List UInt8), ∃ (l0 : Fr), a = fr 23 [] ([(1, .pointer (some ⟨b22, 0, none⟩)), (2, .string (bytesOf ([]))), (4, .int .i64 (k : Int)), (3, .string (bytesOf st))] ++ l0) ∧ μ = 8 - k ∧ k ≤ 8 ∧ St w ((b22, .cells n.enc 31) :: []) ([]) W ∧ (st = n.list.take k) ∧ ((n.list.take k).all (fun c => !isNul c) = true)) id _ ⟨0, [], _, fr_keep ⟨rfl, rfl, rfl, rfl, trivial⟩, rfl, by omega, hS, rfl, rfl⟩ ?_
  rintro μ a W24 ⟨k, st, l0, rfl, rfl, hk, hS, hst, hall⟩
  refine WP.seq ?_
  refine WP.seq ?_
  refine WP.region ?_
  refine WL.op (v := .int .i64 (k : Int)) rfl rfl rfl (Ex.move rfl rfl) ?_
  refine WL.op (v := .bool (decide ((k : Int) < 8))) rfl rfl rfl (Ex.lt rfl rfl rfl) ?_
  refine WL.op (v := .bool (decide ((k : Int) < 8))) rfl rfl rfl (Ex.move rfl rfl) ?_
  rcases Bool.eq_false_or_eq_true (decide ((k : Int) < 8)) with hg25 | hg25
  ·
    have hg25' : (k : Int) < 8 := by simpa using hg25
    refine WL.on rfl rfl rfl (congrArg Value.bool hg25) ?_
    refine WL.op (v := .int .i64 (k : Int)) rfl rfl rfl (Ex.move rfl rfl) ?_
    refine WL.on rfl rfl rfl (congrArg Value.bool hg25) ?_
    refine WL.op (v := .pointer (some ⟨b22, k, none⟩)) rfl rfl rfl (Ex.indexArr undr31 tySz5 (by omega) (by decide) rfl rfl rfl) ?_
    refine WL.on rfl rfl rfl (congrArg Value.bool hg25) ?_
    refine WL.op (v := .int .u8 ((n.at k).toNat : Int)) rfl rfl rfl (Ex.load1 tyOne5 rfl rfl (Reads.of_block (hS.at 0 rfl) k [.int .u8 ((n.at k).toNat : Int)] (Nm.read n (by omega)))) ?_
    refine WL.on rfl rfl rfl (congrArg Value.bool hg25) ?_
    refine WL.op (v := .bool (!decide (((n.at k).toNat : Int) = 0))) rfl rfl rfl (Ex.ne rfl rfl rfl) ?_
    refine WL.op (v := .bool (!decide (((n.at k).toNat : Int) = 0))) rfl rfl rfl (Ex.pickT rfl (congrArg Value.bool hg25) rfl) ?_
    refine WL.nil ?_
    refine then_normal ?_
    refine WP.cond (b := !decide (((n.at k).toNat : Int) = 0)) rfl (fun hc26 => ?_) (fun hc26 => ?_)
    ·
      have hc26' : ¬ (((n.at k).toNat : Int) = 0) := by simpa using hc26
      refine WP.skip ?_
      refine then_normal ?_
      refine WP.seq ?_
      refine WP.block ?_
      refine WP.region ?_
      refine WL.op (v := .string (bytesOf st)) rfl rfl rfl (Ex.move rfl rfl) ?_
      refine WL.op (v := .int .i64 (k : Int)) rfl rfl rfl (Ex.move rfl rfl) ?_
      refine WL.op (v := .pointer (some ⟨b22, k, none⟩)) rfl rfl rfl (Ex.indexArr undr31 tySz5 (by omega) (by decide) rfl rfl rfl) ?_
      refine WL.op (v := .int .u8 ((n.at k).toNat : Int)) rfl rfl rfl (Ex.load1 tyOne5 rfl rfl (Reads.of_block (hS.at 0 rfl) k [.int .u8 ((n.at k).toNat : Int)] (Nm.read n (by omega)))) ?_
      refine WL.buildSlice (ps := [(0, .int .u8 ((n.at k).toNat : Int))]) (C := #[.int .u8 ((n.at k).toNat : Int)]) (E := 5) rfl (fun _ => by kernel_rfl) hS rfl rfl rfl rfl (fun b27 W28 hS => ?_)
      replace hS := hS.slice (α := UInt8) (xs := [n.at k]) (cap := 1) rfl (by simp)
      refine WL.op (v := .string (bytesOf ([n.at k]))) rfl rfl rfl (Ex.convStr undr74 undr5 undr9 (hS.mem (.head _)) rfl rfl) ?_
      refine WL.op (v := .string (bytesOf (st ++ [n.at k]))) rfl rfl rfl (Ex.addStr (by rw [hst, List.length_take]; simp; omega) rfl rfl rfl) ?_
      refine WL.op (v := .string (bytesOf (st ++ [n.at k]))) rfl rfl rfl (Ex.assign rfl rfl) ?_
      refine WL.nil ?_
      refine inBlock_normal ?_
      refine then_normal ?_
      refine WP.region ?_
      refine WL.op (v := .int .i64 (k : Int)) rfl rfl rfl (Ex.move rfl rfl) ?_
      refine WL.op (v := .int .i64 ((k + 1 : Nat) : Int)) rfl rfl rfl (Ex.add rfl rfl rfl (wrap_succ (by omega))) ?_
      refine WL.op (v := .int .i64 ((k + 1 : Nat) : Int)) rfl rfl rfl (Ex.assign rfl rfl) ?_
      refine WL.nil ?_
      refine then_normal ?_
      exact ⟨_, ⟨k + 1, st ++ [n.at k], _, fr_keep ⟨rfl, rfl, rfl, rfl, trivial⟩, rfl, by omega, hS.drop 0 1, (by rw [hst]; exact n.take_at (by omega)), all_step (by omega) hall (nul_int (by assumption))⟩, by simp only [id]; omega⟩
    ·
      have hc26' : ((n.at k).toNat : Int) = 0 := by simpa using hc26
      refine WP.exit ?_
      refine then_exit (then_exit (inBlock_same (?_)))
      refine then_normal ?_
      refine WP.seq ?_
      refine WP.region ?_
      refine WL.op (v := .string (bytesOf st)) rfl rfl rfl (Ex.move rfl rfl) ?_
      refine WL.op (v := .string (bytesOf st)) rfl rfl rfl (Ex.assign rfl rfl) ?_
      refine WL.nil ?_
      refine then_normal ?_
      refine WP.ret ?_
      refine ?_
      refine rt1 (v := .string (bytesOf st)) rfl rfl ?_
      exact ⟨by rw [hst, show n.list.take k = n.text from (by first | exact text_end8 (by assumption) hk hall | exact text_end (by assumption) (by assumption) hall)], hS.bw⟩
  ·
    have hg25' : ¬ ((k : Int) < 8) := by simpa using hg25
    refine WL.off (b' := false) rfl rfl rfl rfl rfl rfl (congrArg Value.bool hg25) rfl ?_
    refine WL.off (b' := false) rfl rfl rfl rfl rfl rfl (congrArg Value.bool hg25) rfl ?_
    refine WL.off (b' := false) rfl rfl rfl rfl rfl rfl (congrArg Value.bool hg25) rfl ?_
    refine WL.off (b' := false) rfl rfl rfl rfl rfl rfl (congrArg Value.bool hg25) rfl ?_
    refine WL.op (v := .bool false) rfl rfl rfl (Ex.pickF rfl (congrArg Value.bool hg25) rfl) ?_
    refine WL.nil ?_
    refine then_normal ?_
    refine WP.condF rfl ?_
    refine WP.exit ?_
    refine then_exit (then_exit (inBlock_same (?_)))
    refine then_normal ?_
    refine WP.seq ?_
    refine WP.region ?_
    refine WL.op (v := .string (bytesOf st)) rfl rfl rfl (Ex.move rfl rfl) ?_
    refine WL.op (v := .string (bytesOf st)) rfl rfl rfl (Ex.assign rfl rfl) ?_
    refine WL.nil ?_
    refine then_normal ?_
    refine WP.ret ?_
    refine ?_
    refine rt1 (v := .string (bytesOf st)) rfl rfl ?_
    exact ⟨by rw [hst, show n.list.take k = n.text from (by first | exact text_end8 (by assumption) hk hall | exact text_end (by assumption) (by assumption) hall)], hS.bw⟩
set_option maxRecDepth 100000 in
set_option maxHeartbeats 1000000 in
theorem c_rpad (l : List UInt8) (w : World) (hl : l.length < 4611686018427387904) :
    Calls Try.prog 96 #[.string (bytesOf l)] w fun e w' => e = .returned (.agg (padNm l).enc) ∧ Bw w w' := by
  have hS := St.begin (w := w) (pins := []) trivial
  refine enter (n := 21) Try.func96 rfl rfl (Nat.le_of_ble_eq_true rfl) (l := [(0, .string (bytesOf l))]) rfl ?_
  refine WP.seq ?_
  refine WP.region ?_
  refine WL.alloc zv31 hS rfl rfl rfl rfl (fun b29 W30 hS => ?_)
  refine WL.nil ?_
  refine then_normal ?_
  refine WP.seq ?_
  refine WP.region ?_
  refine WL.alloc zv31 hS rfl rfl rfl rfl (fun b31 W32 hS => ?_)
  refine WL.nil ?_
  refine then_normal ?_
  refine WP.seq ?_
  refine WP.seq ?_
  refine WP.region ?_
  refine WL.op (v := .int .i64 0) rfl rfl rfl (Ex.assign rfl rfl) ?_
  refine WL.nil ?_
  refine then_normal ?_
  refine WP.block ?_
  refine WP.loop (fun (μ : Nat) a W => ∃ (k : Nat), ∃ (m : Nm), ∃ (l0 : Fr), a = fr 21 [] ([(0, .string (bytesOf l)), (2, .pointer (some ⟨b29, 0, none⟩)), (3, .pointer (some ⟨b31, 0, none⟩)), (4, .int .i64 (k : Int))] ++ l0) ∧ μ = 8 - k ∧ k ≤ 8 ∧ St w ((b31, .cells m.enc 31) :: (b29, .cells Nm.zero.enc 31) :: []) ([]) W ∧ (m = padK l k)) id _ ⟨0, _, _, fr_keep ⟨rfl, rfl, rfl, rfl, trivial⟩, rfl, by omega, hS, rfl⟩ ?_
  rintro μ a W33 ⟨k, m, l0, rfl, rfl, hk, hS, hm⟩
  refine WP.seq ?_
  refine WP.seq ?_
  refine WP.region ?_
  refine WL.op (v := .int .i64 (k : Int)) rfl rfl rfl (Ex.move rfl rfl) ?_
  refine WL.op (v := .string (bytesOf l)) rfl rfl rfl (Ex.move rfl rfl) ?_
  refine WL.op (v := .int .i64 (l.length : Int)) rfl rfl rfl (Ex.lenStr (l := l) undr9 rfl rfl) ?_
  refine WL.op (v := .bool (decide ((k : Int) < (l.length : Int)))) rfl rfl rfl (Ex.lt rfl rfl rfl) ?_
  refine WL.op (v := .bool (decide ((k : Int) < (l.length : Int)))) rfl rfl rfl (Ex.move rfl rfl) ?_
  rcases Bool.eq_false_or_eq_true (decide ((k : Int) < (l.length : Int))) with hg34 | hg34
  ·
    have hg34' : (k : Int) < (l.length : Int) := by simpa using hg34
    refine WL.on rfl rfl rfl (congrArg Value.bool hg34) ?_
    refine WL.op (v := .int .i64 (k : Int)) rfl rfl rfl (Ex.move rfl rfl) ?_
    refine WL.on rfl rfl rfl (congrArg Value.bool hg34) ?_
    refine WL.op (v := .bool (decide ((k : Int) < 8))) rfl rfl rfl (Ex.lt rfl rfl rfl) ?_
    refine WL.op (v := .bool (decide ((k : Int) < 8))) rfl rfl rfl (Ex.pickT rfl (congrArg Value.bool hg34) rfl) ?_
    refine WL.nil ?_
    refine then_normal ?_
    refine WP.cond (b := decide ((k : Int) < 8)) rfl (fun hc35 => ?_) (fun hc35 => ?_)
    ·
      have hc35' : (k : Int) < 8 := by simpa using hc35
      refine WP.skip ?_
      refine then_normal ?_
      refine WP.seq ?_
      refine WP.block ?_
      refine WP.region ?_
      refine WL.op (v := .int .i64 (k : Int)) rfl rfl rfl (Ex.move rfl rfl) ?_
      refine WL.op (v := .string (bytesOf l)) rfl rfl rfl (Ex.move rfl rfl) ?_
      refine WL.op (v := .int .i64 (k : Int)) rfl rfl rfl (Ex.move rfl rfl) ?_
      obtain ⟨c36, hc37⟩ : ∃ c, l[k]? = some c := ⟨l[k]'(by omega), by simp⟩
      refine WL.op (v := .int .u8 (c36.toNat : Int)) rfl rfl rfl (Ex.indexStr (l := l) (k := k) undr9 hc37 rfl rfl rfl) ?_
      refine WL.op (v := .pointer (some ⟨b31, k, none⟩)) rfl rfl rfl (Ex.indexArr undr31 tySz5 (by omega) (by decide) rfl rfl rfl) ?_
      refine WL.store tySz5 hS 0 rfl rfl rfl rfl rfl rfl rfl rfl (ble_of (by show k + 1 ≤ 8; omega)) (C' := (m.set k c36).enc) (Nm.write m c36 (by omega)) ((b31, .cells (m.set k c36).enc 31) :: (b29, .cells Nm.zero.enc 31) :: []) rfl (fun W38 hS => ?_)
      refine WL.nil ?_
      refine inBlock_normal ?_
      refine then_normal ?_
      refine WP.region ?_
      refine WL.op (v := .int .i64 (k : Int)) rfl rfl rfl (Ex.move rfl rfl) ?_
      refine WL.op (v := .int .i64 ((k + 1 : Nat) : Int)) rfl rfl rfl (Ex.add rfl rfl rfl (wrap_succ (by omega))) ?_
      refine WL.op (v := .int .i64 ((k + 1 : Nat) : Int)) rfl rfl rfl (Ex.assign rfl rfl) ?_
      refine WL.nil ?_
      refine then_normal ?_
      exact ⟨_, ⟨k + 1, m.set k c36, _, fr_keep ⟨rfl, rfl, rfl, rfl, trivial⟩, rfl, by omega, hS, (by rw [hm]; exact pad_step (by omega) hc37)⟩, by simp only [id]; omega⟩
    ·
      have hc35' : ¬ ((k : Int) < 8) := by simpa using hc35
      refine WP.exit ?_
      refine then_exit (then_exit (inBlock_same (?_)))
      refine then_normal ?_
      refine WP.seq ?_
      refine WP.region ?_
      refine WL.op (v := .agg m.enc) rfl rfl rfl (Ex.loadA tyAgg31 rfl rfl (Reads.of_block (hS.at 0 rfl) 0 m.enc.toList rfl) rfl) ?_
      refine WL.store tySz31 hS 1 rfl rfl rfl rfl rfl rfl rfl rfl rfl (C' := m.enc) rfl ((b31, .cells m.enc 31) :: (b29, .cells m.enc 31) :: []) rfl (fun W39 hS => ?_)
      refine WL.nil ?_
      refine then_normal ?_
      refine WP.ret ?_
      refine ?_
      refine rtC1 rfl tyAgg31 rfl (Reads.of_block (hS.at 1 rfl) 0 m.enc.toList rfl) rfl ?_
      exact ⟨by rw [show m = padNm l from hm.trans (by first | exact pad_end (by assumption) | exact pad_end8 (by assumption) hk)], hS.bw⟩
  ·
    have hg34' : ¬ ((k : Int) < (l.length : Int)) := by simpa using hg34
    refine WL.off (b' := false) rfl rfl rfl rfl rfl rfl (congrArg Value.bool hg34) rfl ?_
    refine WL.off (b' := false) rfl rfl rfl rfl rfl rfl (congrArg Value.bool hg34) rfl ?_
    refine WL.op (v := .bool false) rfl rfl rfl (Ex.pickF rfl (congrArg Value.bool hg34) rfl) ?_
    refine WL.nil ?_
    refine then_normal ?_
    refine WP.condF rfl ?_
    refine WP.exit ?_
    refine then_exit (then_exit (inBlock_same (?_)))
    refine then_normal ?_
    refine WP.seq ?_
    refine WP.region ?_
    refine WL.op (v := .agg m.enc) rfl rfl rfl (Ex.loadA tyAgg31 rfl rfl (Reads.of_block (hS.at 0 rfl) 0 m.enc.toList rfl) rfl) ?_
    refine WL.store tySz31 hS 1 rfl rfl rfl rfl rfl rfl rfl rfl rfl (C' := m.enc) rfl ((b31, .cells m.enc 31) :: (b29, .cells m.enc 31) :: []) rfl (fun W40 hS => ?_)
    refine WL.nil ?_
    refine then_normal ?_
    refine WP.ret ?_
    refine ?_
    refine rtC1 rfl tyAgg31 rfl (Reads.of_block (hS.at 1 rfl) 0 m.enc.toList rfl) rfl ?_
    exact ⟨by rw [show m = padNm l from hm.trans (by first | exact pad_end (by assumption) | exact pad_end8 (by assumption) hk)], hS.bw⟩
set_option maxRecDepth 100000 in
set_option maxHeartbeats 1000000 in
theorem c_rright (n : Nm) (w : World) :
    Calls Try.prog 48 #[.agg n.enc] w fun e w' => e = .returned (.bool n.right) ∧ Bw w w' := by
  have hS := St.begin (w := w) (pins := []) trivial
  refine enter (n := 13) Try.func48 rfl rfl (Nat.le_of_ble_eq_true rfl) (l := [(0, .agg n.enc)]) rfl ?_
  refine WP.seq ?_
  refine WP.region ?_
  refine WL.box (v := .agg n.enc) hS rfl rfl rfl rfl rfl (fun b41 W42 hS => ?_)
  refine WL.op (v := .bool false) rfl rfl rfl (Ex.assign rfl rfl) ?_
  refine WL.nil ?_
  refine then_normal ?_
  refine WP.seq ?_
  rcases Bool.eq_false_or_eq_true (textRight n.text) with hg43 | hg43
  ·
    refine WP.drawL 11 [(fun u_ _ => u_ = .agg n.enc), (fun u_ _ => u_ = .string (bytesOf n.text)), (fun u_ _ => u_ = .bool (textRight n.text)), (fun u_ _ => u_ = .bool (textRight n.text)), (fun u_ _ => u_ = .agg n.enc), (fun u_ _ => u_ = .string (bytesOf n.text)), (fun u_ _ => u_ = .agg (padNm n.text).enc), (fun u_ _ => u_ = .agg n.enc), (fun u_ _ => u_ = .bool (decide (padNm n.text = n))), (fun u_ _ => u_ = .bool (decide (padNm n.text = n))), (fun u_ _ => u_ = .bool (decide (padNm n.text = n)))] (fun vs => (2, vs 10) :: (12, vs 9) :: (11, vs 8) :: (10, vs 7) :: (9, vs 6) :: (8, vs 5) :: (7, vs 4) :: (6, vs 3) :: (5, vs 2) :: (4, vs 1) :: (3, vs 0) :: _) ⟨fun _ _ _ _ h => h, fun _ _ _ _ h => h, fun _ _ _ _ h => h, fun _ _ _ _ h => h, fun _ _ _ _ h => h, fun _ _ _ _ h => h, fun _ _ _ _ h => h, fun _ _ _ _ h => h, fun _ _ _ _ h => h, fun _ _ _ _ h => h, fun _ _ _ _ h => h, trivial⟩ (by kernel_rfl) (fun _ => rfl) ⟨?_, ?_, ?_, ?_, ?_, ?_, ?_, ?_, ?_, ?_, ?_, trivial⟩ ?_
    ·
      intro vs W hE hp
      exact dr_plain rfl (dr_ex (v := .agg n.enc) (Ex.loadA tyAgg31 rfl rfl (Reads.of_block ((hS.ext hE).at 0 rfl) 0 n.enc.toList rfl) rfl) (Bw.refl _) rfl)
    ·
      intro vs W hE hp
      have p0 := hp 0 (by kernel_rfl)
      simp only [List.getD_cons_zero, List.getD_cons_succ] at p0
      exact dr_plain rfl (dr_callS (v := .string (bytesOf n.text)) (enterS eg95 (args := [.agg n.enc]) rfl rfl rfl (l1 p0)) (c_rtext n _) (fun _ => rfl))
    ·
      intro vs W hE hp
      have p1 := hp 1 (by kernel_rfl)
      simp only [List.getD_cons_zero, List.getD_cons_succ] at p1
      exact dr_plain rfl (dr_callS (v := .bool (textRight n.text)) (enterS eg94 (args := [.string (bytesOf n.text)]) rfl rfl rfl (l1 p1)) (c_ris n.text _ (Nat.lt_of_le_of_lt n.text_len (by decide))) (fun _ => rfl))
    ·
      intro vs W hE hp
      have p2 := hp 2 (by kernel_rfl)
      simp only [List.getD_cons_zero, List.getD_cons_succ] at p2
      exact dr_plain rfl (dr_ex (v := .bool (textRight n.text)) (Ex.move rfl p2) (Bw.refl _) rfl)
    ·
      intro vs W hE hp
      have p3 := hp 3 (by kernel_rfl)
      simp only [List.getD_cons_zero, List.getD_cons_succ] at p3
      exact dr_on rfl rfl rfl p3 (congrArg Value.bool hg43) (dr_ex (v := .agg n.enc) (Ex.loadA tyAgg31 rfl rfl (Reads.of_block ((hS.ext hE).at 0 rfl) 0 n.enc.toList rfl) rfl) (Bw.refl _) rfl)
    ·
      intro vs W hE hp
      have p3 := hp 3 (by kernel_rfl)
      simp only [List.getD_cons_zero, List.getD_cons_succ] at p3
      have p4 := hp 4 (by kernel_rfl)
      simp only [List.getD_cons_zero, List.getD_cons_succ] at p4
      exact dr_on rfl rfl rfl p3 (congrArg Value.bool hg43) (dr_callS (v := .string (bytesOf n.text)) (enterS eg95 (args := [.agg n.enc]) rfl rfl rfl (l1 p4)) (c_rtext n _) (fun _ => rfl))
    ·
      intro vs W hE hp
      have p3 := hp 3 (by kernel_rfl)
      simp only [List.getD_cons_zero, List.getD_cons_succ] at p3
      have p5 := hp 5 (by kernel_rfl)
      simp only [List.getD_cons_zero, List.getD_cons_succ] at p5
      exact dr_on rfl rfl rfl p3 (congrArg Value.bool hg43) (dr_callS (v := .agg (padNm n.text).enc) (enterS eg96 (args := [.string (bytesOf n.text)]) rfl rfl rfl (l1 p5)) (c_rpad n.text _ (Nat.lt_of_le_of_lt n.text_len (by decide))) (fun _ => rfl))
    ·
      intro vs W hE hp
      have p3 := hp 3 (by kernel_rfl)
      simp only [List.getD_cons_zero, List.getD_cons_succ] at p3
      exact dr_on rfl rfl rfl p3 (congrArg Value.bool hg43) (dr_ex (v := .agg n.enc) (Ex.loadA tyAgg31 rfl rfl (Reads.of_block ((hS.ext hE).at 0 rfl) 0 n.enc.toList rfl) rfl) (Bw.refl _) rfl)
    ·
      intro vs W hE hp
      have p3 := hp 3 (by kernel_rfl)
      simp only [List.getD_cons_zero, List.getD_cons_succ] at p3
      have p6 := hp 6 (by kernel_rfl)
      simp only [List.getD_cons_zero, List.getD_cons_succ] at p6
      have p7 := hp 7 (by kernel_rfl)
      simp only [List.getD_cons_zero, List.getD_cons_succ] at p7
      exact dr_on rfl rfl rfl p3 (congrArg Value.bool hg43) (dr_ex (v := .bool (decide (padNm n.text = n))) (Ex.binop rfl p6 p7 (eqlS31 _ _ _ _ _)) (Bw.refl _) rfl)
    ·
      intro vs W hE hp
      have p3 := hp 3 (by kernel_rfl)
      simp only [List.getD_cons_zero, List.getD_cons_succ] at p3
      have p8 := hp 8 (by kernel_rfl)
      simp only [List.getD_cons_zero, List.getD_cons_succ] at p8
      exact dr_plain rfl (dr_ex (v := .bool (decide (padNm n.text = n))) (Ex.pickT rfl (p3.trans (congrArg Value.bool hg43)) p8) (Bw.refl _) rfl)
    ·
      intro vs W hE hp
      have p9 := hp 9 (by kernel_rfl)
      simp only [List.getD_cons_zero, List.getD_cons_succ] at p9
      exact dr_plain rfl (dr_ex (v := .bool (decide (padNm n.text = n))) (Ex.assign rfl p9) (Bw.refl _) rfl)
    intro vs W44 hE hv
    have hS0 := hS; replace hS := hS.ext hE
    have p0 : vs 0 = .agg n.enc := hv 0 (by decide)
    have p1 : vs 1 = .string (bytesOf n.text) := hv 1 (by decide)
    have p2 : vs 2 = .bool (textRight n.text) := hv 2 (by decide)
    have p3 : vs 3 = .bool (textRight n.text) := hv 3 (by decide)
    have p4 : vs 4 = .agg n.enc := hv 4 (by decide)
    have p5 : vs 5 = .string (bytesOf n.text) := hv 5 (by decide)
    have p6 : vs 6 = .agg (padNm n.text).enc := hv 6 (by decide)
    have p7 : vs 7 = .agg n.enc := hv 7 (by decide)
    have p8 : vs 8 = .bool (decide (padNm n.text = n)) := hv 8 (by decide)
    have p9 : vs 9 = .bool (decide (padNm n.text = n)) := hv 9 (by decide)
    have p10 : vs 10 = .bool (decide (padNm n.text = n)) := hv 10 (by decide)
    refine WL.keep (k := [(3, .agg n.enc), (4, .string (bytesOf n.text)), (5, .bool (textRight n.text)), (6, .bool (textRight n.text)), (7, .agg n.enc), (8, .string (bytesOf n.text)), (9, .agg (padNm n.text).enc), (10, .agg n.enc), (11, .bool (decide (padNm n.text = n))), (12, .bool (decide (padNm n.text = n))), (2, .bool (decide (padNm n.text = n)))]) ⟨p0, p1, p2, p3, p4, p5, p6, p7, p8, p9, p10, trivial⟩ ?_
    refine WL.nil ?_
    refine then_normal ?_
    refine WP.ret ?_
    refine ?_
    refine rt1 (v := .bool (decide (padNm n.text = n))) rfl rfl ?_
    exact ⟨retb (by rw [← right_eq]; simp [*]), hS.bw⟩
  ·
    refine WP.drawL 11 [(fun u_ _ => u_ = .agg n.enc), (fun u_ _ => u_ = .string (bytesOf n.text)), (fun u_ _ => u_ = .bool (textRight n.text)), (fun u_ _ => u_ = .bool (textRight n.text)), (fun u_ _ => u_ = undef), (fun u_ _ => u_ = undef), (fun u_ _ => u_ = undef), (fun u_ _ => u_ = undef), (fun u_ _ => u_ = undef), (fun u_ _ => u_ = .bool false), (fun u_ _ => u_ = .bool false)] (fun vs => (2, vs 10) :: (12, vs 9) :: (11, vs 8) :: (10, vs 7) :: (9, vs 6) :: (8, vs 5) :: (7, vs 4) :: (6, vs 3) :: (5, vs 2) :: (4, vs 1) :: (3, vs 0) :: _) ⟨fun _ _ _ _ h => h, fun _ _ _ _ h => h, fun _ _ _ _ h => h, fun _ _ _ _ h => h, fun _ _ _ _ h => h, fun _ _ _ _ h => h, fun _ _ _ _ h => h, fun _ _ _ _ h => h, fun _ _ _ _ h => h, fun _ _ _ _ h => h, fun _ _ _ _ h => h, trivial⟩ (by kernel_rfl) (fun _ => rfl) ⟨?_, ?_, ?_, ?_, ?_, ?_, ?_, ?_, ?_, ?_, ?_, trivial⟩ ?_
    ·
      intro vs W hE hp
      exact dr_plain rfl (dr_ex (v := .agg n.enc) (Ex.loadA tyAgg31 rfl rfl (Reads.of_block ((hS.ext hE).at 0 rfl) 0 n.enc.toList rfl) rfl) (Bw.refl _) rfl)
    ·
      intro vs W hE hp
      have p0 := hp 0 (by kernel_rfl)
      simp only [List.getD_cons_zero, List.getD_cons_succ] at p0
      exact dr_plain rfl (dr_callS (v := .string (bytesOf n.text)) (enterS eg95 (args := [.agg n.enc]) rfl rfl rfl (l1 p0)) (c_rtext n _) (fun _ => rfl))
    ·
      intro vs W hE hp
      have p1 := hp 1 (by kernel_rfl)
      simp only [List.getD_cons_zero, List.getD_cons_succ] at p1
      exact dr_plain rfl (dr_callS (v := .bool (textRight n.text)) (enterS eg94 (args := [.string (bytesOf n.text)]) rfl rfl rfl (l1 p1)) (c_ris n.text _ (Nat.lt_of_le_of_lt n.text_len (by decide))) (fun _ => rfl))
    ·
      intro vs W hE hp
      have p2 := hp 2 (by kernel_rfl)
      simp only [List.getD_cons_zero, List.getD_cons_succ] at p2
      exact dr_plain rfl (dr_ex (v := .bool (textRight n.text)) (Ex.move rfl p2) (Bw.refl _) rfl)
    ·
      intro vs W hE hp
      have p3 := hp 3 (by kernel_rfl)
      simp only [List.getD_cons_zero, List.getD_cons_succ] at p3
      exact dr_off rfl rfl rfl p3 (congrArg Value.bool hg43) rfl rfl
    ·
      intro vs W hE hp
      have p3 := hp 3 (by kernel_rfl)
      simp only [List.getD_cons_zero, List.getD_cons_succ] at p3
      have p4 := hp 4 (by kernel_rfl)
      simp only [List.getD_cons_zero, List.getD_cons_succ] at p4
      exact dr_off rfl rfl rfl p3 (congrArg Value.bool hg43) rfl rfl
    ·
      intro vs W hE hp
      have p3 := hp 3 (by kernel_rfl)
      simp only [List.getD_cons_zero, List.getD_cons_succ] at p3
      have p5 := hp 5 (by kernel_rfl)
      simp only [List.getD_cons_zero, List.getD_cons_succ] at p5
      exact dr_off rfl rfl rfl p3 (congrArg Value.bool hg43) rfl rfl
    ·
      intro vs W hE hp
      have p3 := hp 3 (by kernel_rfl)
      simp only [List.getD_cons_zero, List.getD_cons_succ] at p3
      exact dr_off rfl rfl rfl p3 (congrArg Value.bool hg43) rfl rfl
    ·
      intro vs W hE hp
      have p3 := hp 3 (by kernel_rfl)
      simp only [List.getD_cons_zero, List.getD_cons_succ] at p3
      have p6 := hp 6 (by kernel_rfl)
      simp only [List.getD_cons_zero, List.getD_cons_succ] at p6
      have p7 := hp 7 (by kernel_rfl)
      simp only [List.getD_cons_zero, List.getD_cons_succ] at p7
      exact dr_off rfl rfl rfl p3 (congrArg Value.bool hg43) rfl rfl
    ·
      intro vs W hE hp
      have p3 := hp 3 (by kernel_rfl)
      simp only [List.getD_cons_zero, List.getD_cons_succ] at p3
      have p8 := hp 8 (by kernel_rfl)
      simp only [List.getD_cons_zero, List.getD_cons_succ] at p8
      exact dr_plain rfl (dr_ex (v := .bool false) (Ex.pickF rfl (p3.trans (congrArg Value.bool hg43)) rfl) (Bw.refl _) rfl)
    ·
      intro vs W hE hp
      have p9 := hp 9 (by kernel_rfl)
      simp only [List.getD_cons_zero, List.getD_cons_succ] at p9
      exact dr_plain rfl (dr_ex (v := .bool false) (Ex.assign rfl p9) (Bw.refl _) rfl)
    intro vs W45 hE hv
    have hS0 := hS; replace hS := hS.ext hE
    have p0 : vs 0 = .agg n.enc := hv 0 (by decide)
    have p1 : vs 1 = .string (bytesOf n.text) := hv 1 (by decide)
    have p2 : vs 2 = .bool (textRight n.text) := hv 2 (by decide)
    have p3 : vs 3 = .bool (textRight n.text) := hv 3 (by decide)
    have p9 : vs 9 = .bool false := hv 9 (by decide)
    have p10 : vs 10 = .bool false := hv 10 (by decide)
    refine WL.keep (k := [(3, .agg n.enc), (4, .string (bytesOf n.text)), (5, .bool (textRight n.text)), (6, .bool (textRight n.text)), (12, .bool false), (2, .bool false)]) ⟨p0, p1, p2, p3, p9, p10, trivial⟩ ?_
    refine WL.nil ?_
    refine then_normal ?_
    refine WP.ret ?_
    refine ?_
    refine rt1 (v := .bool false) rfl rfl ?_
    exact ⟨retb (by rw [← right_eq]; simp [*]), hS.bw⟩
set_option maxRecDepth 100000 in
set_option maxHeartbeats 1000000 in
theorem c_rnumber (n : Nm) (w : World) :
    Calls Try.prog 115 #[.agg n.enc] w fun e w' => e = .returned (.int .u64 (n.u.toNat : Int)) ∧ Bw w w' := by
  have hS := St.begin (w := w) (pins := []) trivial
  refine enter (n := 17) Try.func115 rfl rfl (Nat.le_of_ble_eq_true rfl) (l := [(0, .agg n.enc)]) rfl ?_
  refine WP.seq ?_
  refine WP.region ?_
  refine WL.box (v := .agg n.enc) hS rfl rfl rfl rfl rfl (fun b46 W47 hS => ?_)
  refine WL.op (v := .int .u64 0) rfl rfl rfl (Ex.assign rfl rfl) ?_
  refine WL.nil ?_
  refine then_normal ?_
  refine WP.seq ?_
  refine WP.region ?_
  refine WL.op (v := .int .u64 0) rfl rfl rfl (Ex.assign rfl rfl) ?_
  refine WL.nil ?_
  refine then_normal ?_
  refine WP.seq ?_
  refine WP.seq ?_
  refine WP.region ?_
  refine WL.op (v := .int .i64 0) rfl rfl rfl (Ex.assign rfl rfl) ?_
  refine WL.nil ?_
  refine then_normal ?_
  refine WP.block ?_
  refine WP.loop (fun (μ : Nat) a W => ∃ (k : Nat), ∃ (x : UInt64), ∃ (l0 : Fr), a = fr 17 [] ([(1, .pointer (some ⟨b46, 0, none⟩)), (2, .int .u64 0), (4, .int .i64 (k : Int)), (3, .int .u64 (x.toNat : Int))] ++ l0) ∧ μ = 8 - k ∧ k ≤ 8 ∧ St w ((b46, .cells n.enc 31) :: []) ([]) W ∧ (x = UInt64.ofNat (numOf (n.list.take k)))) id _ ⟨0, 0, _, fr_keep ⟨rfl, rfl, rfl, rfl, trivial⟩, rfl, by omega, hS, rfl⟩ ?_
  rintro μ a W48 ⟨k, x, l0, rfl, rfl, hk, hS, hx⟩
  refine WP.seq ?_
  refine WP.seq ?_
  refine WP.region ?_
  refine WL.op (v := .int .i64 (k : Int)) rfl rfl rfl (Ex.move rfl rfl) ?_
  refine WL.op (v := .bool (decide ((k : Int) < 8))) rfl rfl rfl (Ex.lt rfl rfl rfl) ?_
  refine WL.nil ?_
  refine then_normal ?_
  refine WP.cond (b := decide ((k : Int) < 8)) rfl (fun hc49 => ?_) (fun hc49 => ?_)
  ·
    have hc49' : (k : Int) < 8 := by simpa using hc49
    refine WP.skip ?_
    refine then_normal ?_
    refine WP.seq ?_
    refine WP.block ?_
    refine WP.region ?_
    refine WL.op (v := .int .u64 (x.toNat : Int)) rfl rfl rfl (Ex.move rfl rfl) ?_
    refine WL.op (v := .int .u64 (((256 : UInt64) * x).toNat : Int)) rfl rfl rfl (Ex.mul64 (p := (256 : UInt64)) (q := x) rfl rfl rfl) ?_
    refine WL.op (v := .int .i64 (k : Int)) rfl rfl rfl (Ex.move rfl rfl) ?_
    refine WL.op (v := .pointer (some ⟨b46, k, none⟩)) rfl rfl rfl (Ex.indexArr undr31 tySz5 (by omega) (by decide) rfl rfl rfl) ?_
    refine WL.op (v := .int .u8 ((n.at k).toNat : Int)) rfl rfl rfl (Ex.load1 tyOne5 rfl rfl (Reads.of_block (hS.at 0 rfl) k [.int .u8 ((n.at k).toNat : Int)] (Nm.read n (by omega)))) ?_
    refine WL.op (v := .int .u64 (((n.at k).toUInt64).toNat : Int)) rfl rfl rfl (Ex.conv undr5 undr65 (wr8 (n.at k)) rfl rfl) ?_
    refine WL.op (v := .int .u64 ((((256 : UInt64) * x) + ((n.at k).toUInt64)).toNat : Int)) rfl rfl rfl (Ex.add64 (p := ((256 : UInt64) * x)) (q := (n.at k).toUInt64) rfl rfl rfl) ?_
    refine WL.op (v := .int .u64 ((((256 : UInt64) * x) + ((n.at k).toUInt64)).toNat : Int)) rfl rfl rfl (Ex.assign rfl rfl) ?_
    refine WL.nil ?_
    refine inBlock_normal ?_
    refine then_normal ?_
    refine WP.region ?_
    refine WL.op (v := .int .i64 (k : Int)) rfl rfl rfl (Ex.move rfl rfl) ?_
    refine WL.op (v := .int .i64 ((k + 1 : Nat) : Int)) rfl rfl rfl (Ex.add rfl rfl rfl (wrap_succ (by omega))) ?_
    refine WL.op (v := .int .i64 ((k + 1 : Nat) : Int)) rfl rfl rfl (Ex.assign rfl rfl) ?_
    refine WL.nil ?_
    refine then_normal ?_
    exact ⟨_, ⟨k + 1, _, _, fr_keep ⟨rfl, rfl, rfl, rfl, trivial⟩, rfl, by omega, hS, num_step (by omega) hx⟩, by simp only [id]; omega⟩
  ·
    have hc49' : ¬ ((k : Int) < 8) := by simpa using hc49
    refine WP.exit ?_
    refine then_exit (then_exit (inBlock_same (?_)))
    refine then_normal ?_
    refine WP.seq ?_
    refine WP.region ?_
    refine WL.op (v := .int .u64 (x.toNat : Int)) rfl rfl rfl (Ex.move rfl rfl) ?_
    refine WL.op (v := .int .u64 (x.toNat : Int)) rfl rfl rfl (Ex.assign rfl rfl) ?_
    refine WL.nil ?_
    refine then_normal ?_
    refine WP.ret ?_
    refine ?_
    refine rt1 (v := .int .u64 (x.toNat : Int)) rfl rfl ?_
    exact ⟨by rw [hx, show k = 8 by omega]; rfl, hS.bw⟩
set_option maxRecDepth 100000 in
set_option maxHeartbeats 1000000 in
theorem c_rwords (ka : Ky) (w : World) :
    Calls Try.prog 111 #[.agg ka.enc] w fun e w' => e = .returned (.agg ka.words.enc) ∧ Bw w w' := by
  have hS := St.begin (w := w) (pins := []) trivial
  refine enter (n := 23) Try.func111 rfl rfl (Nat.le_of_ble_eq_true rfl) (l := [(0, .agg ka.enc)]) rfl ?_
  refine WP.seq ?_
  refine WP.region ?_
  refine WL.box (v := .agg ka.enc) hS rfl rfl rfl rfl rfl (fun b50 W51 hS => ?_)
  refine WL.alloc zv118 hS rfl rfl rfl rfl (fun b52 W53 hS => ?_)
  refine WL.nil ?_
  refine then_normal ?_
  refine WP.seq ?_
  refine WP.drawL 20 [(fun u_ _ => u_ = .pointer (some ⟨b50, 0, none⟩)), (fun u_ _ => u_ = .int .u8 (ka.sort.toNat : Int)), (fun u_ _ => u_ = .int .u64 (ka.sort.toUInt64.toNat : Int)), (fun u_ _ => u_ = .int .u64 ((ka.sort.toUInt64 * (65536 : UInt64)).toNat : Int)), (fun u_ _ => u_ = .pointer (some ⟨b50, 1, none⟩)), (fun u_ _ => u_ = .int .u16 (ka.cart.toNat : Int)), (fun u_ _ => u_ = .int .u64 (ka.cart.toUInt64.toNat : Int)), (fun u_ _ => u_ = .int .u64 (((ka.sort.toUInt64 * (65536 : UInt64)) + ka.cart.toUInt64).toNat : Int)), (fun u_ _ => u_ = .pointer (some ⟨b50, 2, none⟩)), (fun u_ _ => u_ = .agg ka.item.enc), (fun u_ _ => u_ = .int .u64 (ka.item.u.toNat : Int)), (fun u_ _ => u_ = .pointer (some ⟨b50, 10, none⟩)), (fun u_ _ => u_ = .int .u8 (ka.rep.toNat : Int)), (fun u_ _ => u_ = .int .u64 (ka.rep.toUInt64.toNat : Int)), (fun u_ _ => u_ = .int .u64 ((ka.rep.toUInt64 * (4294967296 : UInt64)).toNat : Int)), (fun u_ _ => u_ = .pointer (some ⟨b50, 11, none⟩)), (fun u_ _ => u_ = .int .u32 (ka.seq.toNat : Int)), (fun u_ _ => u_ = .int .u64 (ka.seq.toUInt64.toNat : Int)), (fun u_ _ => u_ = .int .u64 (((ka.rep.toUInt64 * (4294967296 : UInt64)) + ka.seq.toUInt64).toNat : Int)), (fun u_ _ => u_ = .agg (Tri.mk ((ka.sort.toUInt64 * (65536 : UInt64)) + ka.cart.toUInt64) ka.item.u ((ka.rep.toUInt64 * (4294967296 : UInt64)) + ka.seq.toUInt64)).enc)] (fun vs => (22, vs 19) :: (21, vs 18) :: (20, vs 17) :: (19, vs 16) :: (18, vs 15) :: (17, vs 14) :: (16, vs 13) :: (15, vs 12) :: (14, vs 11) :: (13, vs 10) :: (12, vs 9) :: (11, vs 8) :: (10, vs 7) :: (9, vs 6) :: (8, vs 5) :: (7, vs 4) :: (6, vs 3) :: (5, vs 2) :: (4, vs 1) :: (3, vs 0) :: _) ⟨fun _ _ _ _ h => h, fun _ _ _ _ h => h, fun _ _ _ _ h => h, fun _ _ _ _ h => h, fun _ _ _ _ h => h, fun _ _ _ _ h => h, fun _ _ _ _ h => h, fun _ _ _ _ h => h, fun _ _ _ _ h => h, fun _ _ _ _ h => h, fun _ _ _ _ h => h, fun _ _ _ _ h => h, fun _ _ _ _ h => h, fun _ _ _ _ h => h, fun _ _ _ _ h => h, fun _ _ _ _ h => h, fun _ _ _ _ h => h, fun _ _ _ _ h => h, fun _ _ _ _ h => h, fun _ _ _ _ h => h, trivial⟩ (by kernel_rfl) (fun _ => rfl) ⟨?_, ?_, ?_, ?_, ?_, ?_, ?_, ?_, ?_, ?_, ?_, ?_, ?_, ?_, ?_, ?_, ?_, ?_, ?_, ?_, trivial⟩ ?_
  ·
    intro vs W hE hp
    exact dr_plain rfl (dr_ex (v := .pointer (some ⟨b50, 0, none⟩)) (Ex.fieldAddr' fieldAt61_0 rfl rfl) (Bw.refl _) rfl)
  ·
    intro vs W hE hp
    have p0 := hp 0 (by kernel_rfl)
    simp only [List.getD_cons_zero, List.getD_cons_succ] at p0
    exact dr_plain rfl (dr_ex (v := .int .u8 (ka.sort.toNat : Int)) (Ex.load1 tyOne5 rfl p0 (Reads.of_block ((hS.ext hE).at 1 rfl) 0 [.int .u8 (ka.sort.toNat : Int)] rfl)) (Bw.refl _) rfl)
  ·
    intro vs W hE hp
    have p1 := hp 1 (by kernel_rfl)
    simp only [List.getD_cons_zero, List.getD_cons_succ] at p1
    exact dr_plain rfl (dr_ex (v := .int .u64 (ka.sort.toUInt64.toNat : Int)) (Ex.conv undr5 undr65 (wr8 ka.sort) rfl p1) (Bw.refl _) rfl)
  ·
    intro vs W hE hp
    have p2 := hp 2 (by kernel_rfl)
    simp only [List.getD_cons_zero, List.getD_cons_succ] at p2
    exact dr_plain rfl (dr_ex (v := .int .u64 ((ka.sort.toUInt64 * (65536 : UInt64)).toNat : Int)) (Ex.mul64 (p := ka.sort.toUInt64) (q := (65536 : UInt64)) rfl p2 rfl) (Bw.refl _) rfl)
  ·
    intro vs W hE hp
    exact dr_plain rfl (dr_ex (v := .pointer (some ⟨b50, 1, none⟩)) (Ex.fieldAddr' fieldAt61_1 rfl rfl) (Bw.refl _) rfl)
  ·
    intro vs W hE hp
    have p4 := hp 4 (by kernel_rfl)
    simp only [List.getD_cons_zero, List.getD_cons_succ] at p4
    exact dr_plain rfl (dr_ex (v := .int .u16 (ka.cart.toNat : Int)) (Ex.load1 tyOne29 rfl p4 (Reads.of_block ((hS.ext hE).at 1 rfl) 1 [.int .u16 (ka.cart.toNat : Int)] rfl)) (Bw.refl _) rfl)
  ·
    intro vs W hE hp
    have p5 := hp 5 (by kernel_rfl)
    simp only [List.getD_cons_zero, List.getD_cons_succ] at p5
    exact dr_plain rfl (dr_ex (v := .int .u64 (ka.cart.toUInt64.toNat : Int)) (Ex.conv undr29 undr65 (wr16 ka.cart) rfl p5) (Bw.refl _) rfl)
  ·
    intro vs W hE hp
    have p3 := hp 3 (by kernel_rfl)
    simp only [List.getD_cons_zero, List.getD_cons_succ] at p3
    have p6 := hp 6 (by kernel_rfl)
    simp only [List.getD_cons_zero, List.getD_cons_succ] at p6
    exact dr_plain rfl (dr_ex (v := .int .u64 (((ka.sort.toUInt64 * (65536 : UInt64)) + ka.cart.toUInt64).toNat : Int)) (Ex.add64 (p := (ka.sort.toUInt64 * (65536 : UInt64))) (q := ka.cart.toUInt64) rfl p3 p6) (Bw.refl _) rfl)
  ·
    intro vs W hE hp
    exact dr_plain rfl (dr_ex (v := .pointer (some ⟨b50, 2, none⟩)) (Ex.fieldAddr' fieldAt61_2 rfl rfl) (Bw.refl _) rfl)
  ·
    intro vs W hE hp
    have p8 := hp 8 (by kernel_rfl)
    simp only [List.getD_cons_zero, List.getD_cons_succ] at p8
    exact dr_plain rfl (dr_ex (v := .agg ka.item.enc) (Ex.loadA tyAgg31 rfl p8 (Reads.of_block ((hS.ext hE).at 1 rfl) 2 ka.item.enc.toList rfl) rfl) (Bw.refl _) rfl)
  ·
    intro vs W hE hp
    have p9 := hp 9 (by kernel_rfl)
    simp only [List.getD_cons_zero, List.getD_cons_succ] at p9
    exact dr_plain rfl (dr_callS (v := .int .u64 (ka.item.u.toNat : Int)) (enterS eg115 (args := [.agg ka.item.enc]) rfl rfl rfl (l1 p9)) (c_rnumber ka.item _) (fun _ => rfl))
  ·
    intro vs W hE hp
    exact dr_plain rfl (dr_ex (v := .pointer (some ⟨b50, 10, none⟩)) (Ex.fieldAddr' fieldAt61_3 rfl rfl) (Bw.refl _) rfl)
  ·
    intro vs W hE hp
    have p11 := hp 11 (by kernel_rfl)
    simp only [List.getD_cons_zero, List.getD_cons_succ] at p11
    exact dr_plain rfl (dr_ex (v := .int .u8 (ka.rep.toNat : Int)) (Ex.load1 tyOne5 rfl p11 (Reads.of_block ((hS.ext hE).at 1 rfl) 10 [.int .u8 (ka.rep.toNat : Int)] rfl)) (Bw.refl _) rfl)
  ·
    intro vs W hE hp
    have p12 := hp 12 (by kernel_rfl)
    simp only [List.getD_cons_zero, List.getD_cons_succ] at p12
    exact dr_plain rfl (dr_ex (v := .int .u64 (ka.rep.toUInt64.toNat : Int)) (Ex.conv undr5 undr65 (wr8 ka.rep) rfl p12) (Bw.refl _) rfl)
  ·
    intro vs W hE hp
    have p13 := hp 13 (by kernel_rfl)
    simp only [List.getD_cons_zero, List.getD_cons_succ] at p13
    exact dr_plain rfl (dr_ex (v := .int .u64 ((ka.rep.toUInt64 * (4294967296 : UInt64)).toNat : Int)) (Ex.mul64 (p := ka.rep.toUInt64) (q := (4294967296 : UInt64)) rfl p13 rfl) (Bw.refl _) rfl)
  ·
    intro vs W hE hp
    exact dr_plain rfl (dr_ex (v := .pointer (some ⟨b50, 11, none⟩)) (Ex.fieldAddr' fieldAt61_4 rfl rfl) (Bw.refl _) rfl)
  ·
    intro vs W hE hp
    have p15 := hp 15 (by kernel_rfl)
    simp only [List.getD_cons_zero, List.getD_cons_succ] at p15
    exact dr_plain rfl (dr_ex (v := .int .u32 (ka.seq.toNat : Int)) (Ex.load1 tyOne34 rfl p15 (Reads.of_block ((hS.ext hE).at 1 rfl) 11 [.int .u32 (ka.seq.toNat : Int)] rfl)) (Bw.refl _) rfl)
  ·
    intro vs W hE hp
    have p16 := hp 16 (by kernel_rfl)
    simp only [List.getD_cons_zero, List.getD_cons_succ] at p16
    exact dr_plain rfl (dr_ex (v := .int .u64 (ka.seq.toUInt64.toNat : Int)) (Ex.conv undr34 undr65 (wr32 ka.seq) rfl p16) (Bw.refl _) rfl)
  ·
    intro vs W hE hp
    have p14 := hp 14 (by kernel_rfl)
    simp only [List.getD_cons_zero, List.getD_cons_succ] at p14
    have p17 := hp 17 (by kernel_rfl)
    simp only [List.getD_cons_zero, List.getD_cons_succ] at p17
    exact dr_plain rfl (dr_ex (v := .int .u64 (((ka.rep.toUInt64 * (4294967296 : UInt64)) + ka.seq.toUInt64).toNat : Int)) (Ex.add64 (p := (ka.rep.toUInt64 * (4294967296 : UInt64))) (q := ka.seq.toUInt64) rfl p14 p17) (Bw.refl _) rfl)
  ·
    intro vs W hE hp
    have p7 := hp 7 (by kernel_rfl)
    simp only [List.getD_cons_zero, List.getD_cons_succ] at p7
    have p10 := hp 10 (by kernel_rfl)
    simp only [List.getD_cons_zero, List.getD_cons_succ] at p10
    have p18 := hp 18 (by kernel_rfl)
    simp only [List.getD_cons_zero, List.getD_cons_succ] at p18
    exact dr_plain rfl (dr_ex (v := .agg (Tri.mk ((ka.sort.toUInt64 * (65536 : UInt64)) + ka.cart.toUInt64) ka.item.u ((ka.rep.toUInt64 * (4294967296 : UInt64)) + ka.seq.toUInt64)).enc) (Ex.build (ps := [(0, .int .u64 (((ka.sort.toUInt64 * (65536 : UInt64)) + ka.cart.toUInt64).toNat : Int)), (1, .int .u64 (ka.item.u.toNat : Int)), (2, .int .u64 (((ka.rep.toUInt64 * (4294967296 : UInt64)) + ka.seq.toUInt64).toNat : Int))]) rfl (m3 p7 p10 p18) (by kernel_rfl)) (Bw.refl _) rfl)
  intro vs W54 hE hv
  have hS0 := hS; replace hS := hS.ext hE
  have p0 : vs 0 = .pointer (some ⟨b50, 0, none⟩) := hv 0 (by decide)
  have p1 : vs 1 = .int .u8 (ka.sort.toNat : Int) := hv 1 (by decide)
  have p2 : vs 2 = .int .u64 (ka.sort.toUInt64.toNat : Int) := hv 2 (by decide)
  have p3 : vs 3 = .int .u64 ((ka.sort.toUInt64 * (65536 : UInt64)).toNat : Int) := hv 3 (by decide)
  have p4 : vs 4 = .pointer (some ⟨b50, 1, none⟩) := hv 4 (by decide)
  have p5 : vs 5 = .int .u16 (ka.cart.toNat : Int) := hv 5 (by decide)
  have p6 : vs 6 = .int .u64 (ka.cart.toUInt64.toNat : Int) := hv 6 (by decide)
  have p7 : vs 7 = .int .u64 (((ka.sort.toUInt64 * (65536 : UInt64)) + ka.cart.toUInt64).toNat : Int) := hv 7 (by decide)
  have p8 : vs 8 = .pointer (some ⟨b50, 2, none⟩) := hv 8 (by decide)
  have p9 : vs 9 = .agg ka.item.enc := hv 9 (by decide)
  have p10 : vs 10 = .int .u64 (ka.item.u.toNat : Int) := hv 10 (by decide)
  have p11 : vs 11 = .pointer (some ⟨b50, 10, none⟩) := hv 11 (by decide)
  have p12 : vs 12 = .int .u8 (ka.rep.toNat : Int) := hv 12 (by decide)
  have p13 : vs 13 = .int .u64 (ka.rep.toUInt64.toNat : Int) := hv 13 (by decide)
  have p14 : vs 14 = .int .u64 ((ka.rep.toUInt64 * (4294967296 : UInt64)).toNat : Int) := hv 14 (by decide)
  have p15 : vs 15 = .pointer (some ⟨b50, 11, none⟩) := hv 15 (by decide)
  have p16 : vs 16 = .int .u32 (ka.seq.toNat : Int) := hv 16 (by decide)
  have p17 : vs 17 = .int .u64 (ka.seq.toUInt64.toNat : Int) := hv 17 (by decide)
  have p18 : vs 18 = .int .u64 (((ka.rep.toUInt64 * (4294967296 : UInt64)) + ka.seq.toUInt64).toNat : Int) := hv 18 (by decide)
  have p19 : vs 19 = .agg (Tri.mk ((ka.sort.toUInt64 * (65536 : UInt64)) + ka.cart.toUInt64) ka.item.u ((ka.rep.toUInt64 * (4294967296 : UInt64)) + ka.seq.toUInt64)).enc := hv 19 (by decide)
  refine WL.keep (k := [(3, .pointer (some ⟨b50, 0, none⟩)), (4, .int .u8 (ka.sort.toNat : Int)), (5, .int .u64 (ka.sort.toUInt64.toNat : Int)), (6, .int .u64 ((ka.sort.toUInt64 * (65536 : UInt64)).toNat : Int)), (7, .pointer (some ⟨b50, 1, none⟩)), (8, .int .u16 (ka.cart.toNat : Int)), (9, .int .u64 (ka.cart.toUInt64.toNat : Int)), (10, .int .u64 (((ka.sort.toUInt64 * (65536 : UInt64)) + ka.cart.toUInt64).toNat : Int)), (11, .pointer (some ⟨b50, 2, none⟩)), (12, .agg ka.item.enc), (13, .int .u64 (ka.item.u.toNat : Int)), (14, .pointer (some ⟨b50, 10, none⟩)), (15, .int .u8 (ka.rep.toNat : Int)), (16, .int .u64 (ka.rep.toUInt64.toNat : Int)), (17, .int .u64 ((ka.rep.toUInt64 * (4294967296 : UInt64)).toNat : Int)), (18, .pointer (some ⟨b50, 11, none⟩)), (19, .int .u32 (ka.seq.toNat : Int)), (20, .int .u64 (ka.seq.toUInt64.toNat : Int)), (21, .int .u64 (((ka.rep.toUInt64 * (4294967296 : UInt64)) + ka.seq.toUInt64).toNat : Int)), (22, .agg (Tri.mk ((ka.sort.toUInt64 * (65536 : UInt64)) + ka.cart.toUInt64) ka.item.u ((ka.rep.toUInt64 * (4294967296 : UInt64)) + ka.seq.toUInt64)).enc)]) ⟨p0, p1, p2, p3, p4, p5, p6, p7, p8, p9, p10, p11, p12, p13, p14, p15, p16, p17, p18, p19, trivial⟩ ?_
  refine WL.store tySz118 hS 0 rfl rfl rfl rfl rfl rfl rfl rfl rfl (C' := (Tri.mk ((ka.sort.toUInt64 * (65536 : UInt64)) + ka.cart.toUInt64) ka.item.u ((ka.rep.toUInt64 * (4294967296 : UInt64)) + ka.seq.toUInt64)).enc) rfl ((b52, .cells (Tri.mk ((ka.sort.toUInt64 * (65536 : UInt64)) + ka.cart.toUInt64) ka.item.u ((ka.rep.toUInt64 * (4294967296 : UInt64)) + ka.seq.toUInt64)).enc 118) :: (b50, .cells ka.enc 61) :: []) rfl (fun W55 hS => ?_)
  refine WL.nil ?_
  refine then_normal ?_
  refine WP.ret ?_
  refine ?_
  refine rtC1 rfl tyAgg118 rfl (Reads.of_block (hS.at 0 rfl) 0 (Tri.mk ((ka.sort.toUInt64 * (65536 : UInt64)) + ka.cart.toUInt64) ka.item.u ((ka.rep.toUInt64 * (4294967296 : UInt64)) + ka.seq.toUInt64)).enc.toList rfl) rfl ?_
  exact ⟨rfl, hS.bw⟩
set_option maxRecDepth 100000 in
set_option maxHeartbeats 1000000 in
theorem c_rless (ka kb : Ky) (w : World) :
    Calls Try.prog 70 #[.agg ka.enc, .agg kb.enc] w fun e w' => e = .returned (.bool (ka.lt kb)) ∧ Bw w w' := by
  have hS := St.begin (w := w) (pins := []) trivial
  refine enter (n := 30) Try.func70 rfl rfl (Nat.le_of_ble_eq_true rfl) (l := [(0, .agg ka.enc), (1, .agg kb.enc)]) rfl ?_
  refine WP.seq ?_
  refine WP.region ?_
  refine WL.box (v := .agg ka.enc) hS rfl rfl rfl rfl rfl (fun b56 W57 hS => ?_)
  refine WL.box (v := .agg kb.enc) hS rfl rfl rfl rfl rfl (fun b58 W59 hS => ?_)
  refine WL.op (v := .bool false) rfl rfl rfl (Ex.assign rfl rfl) ?_
  refine WL.nil ?_
  refine then_normal ?_
  refine WP.seq ?_
  refine WP.drawL2 6 [(fun u_ _ => u_ = .agg ka.enc), (fun u_ _ => u_ = .agg ka.words.enc), (fun u_ _ => u_ = .agg kb.enc), (fun u_ _ => u_ = .agg kb.words.enc), (isNewBox W59 (Tri.zero.enc) 118), (isNewBox W59 (Tri.zero.enc) 118)] [fun _ _ => True, fun _ _ => True, fun _ _ => True, fun _ _ => True, wasNoBox, wasNoBox] (fun vs => (6, vs 5) :: (5, vs 4) :: (11, vs 3) :: (10, vs 2) :: (9, vs 1) :: (8, vs 0) :: _) ⟨fun _ _ _ _ h => h, fun _ _ _ _ h => h, fun _ _ _ _ h => h, fun _ _ _ _ h => h, mono_alloc, mono_alloc, trivial⟩ (by kernel_rfl) (fun _ => rfl) ⟨?_, ?_, ?_, ?_, ?_, ?_, trivial⟩ ?_
  ·
    intro vs W hE hp
    exact dr_plain rfl (dr_ex (v := .agg ka.enc) (Ex.loadA tyAgg61 rfl rfl (Reads.of_block ((hS.ext hE).at 1 rfl) 0 ka.enc.toList rfl) rfl) (Bw.refl _) rfl)
  ·
    intro vs W hE hp
    have p0 := hp 0 (by kernel_rfl)
    simp only [List.getD_cons_zero, List.getD_cons_succ] at p0
    exact dr_plain rfl (dr_callS (v := .agg ka.words.enc) (enterS eg111 (args := [.agg ka.enc]) rfl rfl rfl (l1 p0)) (c_rwords ka _) (fun _ => rfl))
  ·
    intro vs W hE hp
    exact dr_plain rfl (dr_ex (v := .agg kb.enc) (Ex.loadA tyAgg61 rfl rfl (Reads.of_block ((hS.ext hE).at 0 rfl) 0 kb.enc.toList rfl) rfl) (Bw.refl _) rfl)
  ·
    intro vs W hE hp
    have p2 := hp 2 (by kernel_rfl)
    simp only [List.getD_cons_zero, List.getD_cons_succ] at p2
    exact dr_plain rfl (dr_callS (v := .agg kb.words.enc) (enterS eg111 (args := [.agg kb.enc]) rfl rfl rfl (l1 p2)) (c_rwords kb _) (fun _ => rfl))
  ·
    intro vs W hE hp
    exact dr_plain rfl (dr_alloc zv118 rfl hE)
  ·
    intro vs W hE hp
    exact dr_plain rfl (dr_alloc zv118 rfl hE)
  intro vs W64 hE hv hP
  have hS0 := hS; replace hS := hS.ext hE
  have p0 : vs 0 = .agg ka.enc := hv 0 (by decide)
  have p1 : vs 1 = .agg ka.words.enc := hv 1 (by decide)
  have p2 : vs 2 = .agg kb.enc := hv 2 (by decide)
  have p3 : vs 3 = .agg kb.words.enc := hv 3 (by decide)
  have p4 := hv 4 (by decide)
  skip -- 4
  obtain ⟨b65, hb66, hh, hn⟩ := p4
  replace hS := St.adoptNew (ex := []) hS0 hS hh hn (by simp [])
  have p4 := hb66
  have p5 := hv 5 (by decide)
  skip -- 5
  obtain ⟨b67, hb68, hh, hn⟩ := p5
  have ne5_4 := alloc_ne (hP 5 4 (by decide) (by decide) (by decide)) rfl rfl rfl rfl hb68 hb66
  replace hS := St.adoptNew (ex := [(b65, .cells (Tri.zero.enc) 118)]) hS0 hS hh hn (by simp [ne5_4])
  have p5 := hb68
  refine WL.keep (k := [(8, .agg ka.enc), (9, .agg ka.words.enc), (10, .agg kb.enc), (11, .agg kb.words.enc), (5, .pointer (some ⟨b65, 0, none⟩)), (6, .pointer (some ⟨b67, 0, none⟩))]) ⟨p0, p1, p2, p3, p4, p5, trivial⟩ ?_
  refine WL.store tySz118 hS 1 rfl rfl rfl rfl rfl rfl rfl rfl rfl (C' := ka.words.enc) rfl ((b67, .cells Tri.zero.enc 118) :: (b65, .cells ka.words.enc 118) :: (b58, .cells kb.enc 61) :: (b56, .cells ka.enc 61) :: []) rfl (fun W69 hS => ?_)
  refine WL.store tySz118 hS 0 rfl rfl rfl rfl rfl rfl rfl rfl rfl (C' := kb.words.enc) rfl ((b67, .cells kb.words.enc 118) :: (b65, .cells ka.words.enc 118) :: (b58, .cells kb.enc 61) :: (b56, .cells ka.enc 61) :: []) rfl (fun W70 hS => ?_)
  refine WL.nil ?_
  refine then_normal ?_
  refine WP.seq ?_
  refine WP.seq ?_
  refine WP.region ?_
  refine WL.op (v := .int .i64 0) rfl rfl rfl (Ex.assign rfl rfl) ?_
  refine WL.nil ?_
  refine then_normal ?_
  refine WP.block ?_
  refine WP.loop (fun (μ : Nat) a W => ∃ (k : Nat), ∃ (l0 : Fr), a = fr 30 [] ([(5, .pointer (some ⟨b65, 0, none⟩)), (6, .pointer (some ⟨b67, 0, none⟩)), (7, .int .i64 (k : Int))] ++ l0) ∧ μ = 3 - k ∧ k ≤ 3 ∧ St w ((b67, .cells kb.words.enc 118) :: (b65, .cells ka.words.enc 118) :: (b58, .cells kb.enc 61) :: (b56, .cells ka.enc 61) :: []) ([]) W ∧ (∀ j, j < k → (ka.words.at j).toNat = (kb.words.at j).toNat)) id _ ⟨0, _, fr_keep ⟨rfl, rfl, rfl, trivial⟩, rfl, by omega, hS, (fun j hj => absurd hj (by omega))⟩ ?_
  rintro μ a W71 ⟨k, l0, rfl, rfl, hk, hS, heq⟩
  refine WP.seq ?_
  refine WP.seq ?_
  refine WP.region ?_
  refine WL.op (v := .int .i64 (k : Int)) rfl rfl rfl (Ex.move rfl rfl) ?_
  refine WL.op (v := .bool (decide ((k : Int) < 3))) rfl rfl rfl (Ex.lt rfl rfl rfl) ?_
  refine WL.nil ?_
  refine then_normal ?_
  refine WP.cond (b := decide ((k : Int) < 3)) rfl (fun hc72 => ?_) (fun hc72 => ?_)
  ·
    have hc72' : (k : Int) < 3 := by simpa using hc72
    refine WP.skip ?_
    refine then_normal ?_
    refine WP.seq ?_
    refine WP.block ?_
    refine WP.seq ?_
    refine WP.drawL 7 [(fun u_ _ => u_ = .int .i64 (k : Int)), (fun u_ _ => u_ = .pointer (some ⟨b65, k, none⟩)), (fun u_ _ => u_ = .int .u64 ((ka.words.at k).toNat : Int)), (fun u_ _ => u_ = .int .i64 (k : Int)), (fun u_ _ => u_ = .pointer (some ⟨b67, k, none⟩)), (fun u_ _ => u_ = .int .u64 ((kb.words.at k).toNat : Int)), (fun u_ _ => u_ = .bool (!decide (((ka.words.at k).toNat : Int) = ((kb.words.at k).toNat : Int))))] (fun vs => (22, vs 6) :: (21, vs 5) :: (20, vs 4) :: (19, vs 3) :: (18, vs 2) :: (17, vs 1) :: (16, vs 0) :: _) ⟨fun _ _ _ _ h => h, fun _ _ _ _ h => h, fun _ _ _ _ h => h, fun _ _ _ _ h => h, fun _ _ _ _ h => h, fun _ _ _ _ h => h, fun _ _ _ _ h => h, trivial⟩ (by kernel_rfl) (fun _ => rfl) ⟨?_, ?_, ?_, ?_, ?_, ?_, ?_, trivial⟩ ?_
    ·
      intro vs W hE hp
      exact dr_plain rfl (dr_ex (v := .int .i64 (k : Int)) (Ex.move rfl rfl) (Bw.refl _) rfl)
    ·
      intro vs W hE hp
      have p0 := hp 0 (by kernel_rfl)
      simp only [List.getD_cons_zero, List.getD_cons_succ] at p0
      exact dr_plain rfl (dr_ex (v := .pointer (some ⟨b65, k, none⟩)) (Ex.indexArr undr118 tySz65 (by omega) (by decide) rfl rfl p0) (Bw.refl _) rfl)
    ·
      intro vs W hE hp
      have p1 := hp 1 (by kernel_rfl)
      simp only [List.getD_cons_zero, List.getD_cons_succ] at p1
      exact dr_plain rfl (dr_ex (v := .int .u64 ((ka.words.at k).toNat : Int)) (Ex.load1 tyOne65 rfl p1 (Reads.of_block ((hS.ext hE).at 1 rfl) k [.int .u64 ((ka.words.at k).toNat : Int)] (Tri.read ka.words (by omega)))) (Bw.refl _) rfl)
    ·
      intro vs W hE hp
      exact dr_plain rfl (dr_ex (v := .int .i64 (k : Int)) (Ex.move rfl rfl) (Bw.refl _) rfl)
    ·
      intro vs W hE hp
      have p3 := hp 3 (by kernel_rfl)
      simp only [List.getD_cons_zero, List.getD_cons_succ] at p3
      exact dr_plain rfl (dr_ex (v := .pointer (some ⟨b67, k, none⟩)) (Ex.indexArr undr118 tySz65 (by omega) (by decide) rfl rfl p3) (Bw.refl _) rfl)
    ·
      intro vs W hE hp
      have p4 := hp 4 (by kernel_rfl)
      simp only [List.getD_cons_zero, List.getD_cons_succ] at p4
      exact dr_plain rfl (dr_ex (v := .int .u64 ((kb.words.at k).toNat : Int)) (Ex.load1 tyOne65 rfl p4 (Reads.of_block ((hS.ext hE).at 0 rfl) k [.int .u64 ((kb.words.at k).toNat : Int)] (Tri.read kb.words (by omega)))) (Bw.refl _) rfl)
    ·
      intro vs W hE hp
      have p2 := hp 2 (by kernel_rfl)
      simp only [List.getD_cons_zero, List.getD_cons_succ] at p2
      have p5 := hp 5 (by kernel_rfl)
      simp only [List.getD_cons_zero, List.getD_cons_succ] at p5
      exact dr_plain rfl (dr_ex (v := .bool (!decide (((ka.words.at k).toNat : Int) = ((kb.words.at k).toNat : Int)))) (Ex.ne rfl p2 p5) (Bw.refl _) rfl)
    intro vs W73 hE hv
    have hS0 := hS; replace hS := hS.ext hE
    have p0 : vs 0 = .int .i64 (k : Int) := hv 0 (by decide)
    have p1 : vs 1 = .pointer (some ⟨b65, k, none⟩) := hv 1 (by decide)
    have p2 : vs 2 = .int .u64 ((ka.words.at k).toNat : Int) := hv 2 (by decide)
    have p3 : vs 3 = .int .i64 (k : Int) := hv 3 (by decide)
    have p4 : vs 4 = .pointer (some ⟨b67, k, none⟩) := hv 4 (by decide)
    have p5 : vs 5 = .int .u64 ((kb.words.at k).toNat : Int) := hv 5 (by decide)
    have p6 : vs 6 = .bool (!decide (((ka.words.at k).toNat : Int) = ((kb.words.at k).toNat : Int))) := hv 6 (by decide)
    refine WL.keep (k := [(16, .int .i64 (k : Int)), (17, .pointer (some ⟨b65, k, none⟩)), (18, .int .u64 ((ka.words.at k).toNat : Int)), (19, .int .i64 (k : Int)), (20, .pointer (some ⟨b67, k, none⟩)), (21, .int .u64 ((kb.words.at k).toNat : Int)), (22, .bool (!decide (((ka.words.at k).toNat : Int) = ((kb.words.at k).toNat : Int))))]) ⟨p0, p1, p2, p3, p4, p5, p6, trivial⟩ ?_
    refine WL.nil ?_
    refine then_normal ?_
    refine WP.cond (b := !decide (((ka.words.at k).toNat : Int) = ((kb.words.at k).toNat : Int))) rfl (fun hc74 => ?_) (fun hc74 => ?_)
    ·
      have hc74' : ¬ (((ka.words.at k).toNat : Int) = ((kb.words.at k).toNat : Int)) := by simpa using hc74
      refine WP.seq ?_
      refine WP.drawL 8 [(fun u_ _ => u_ = .int .i64 (k : Int)), (fun u_ _ => u_ = .pointer (some ⟨b65, k, none⟩)), (fun u_ _ => u_ = .int .u64 ((ka.words.at k).toNat : Int)), (fun u_ _ => u_ = .int .i64 (k : Int)), (fun u_ _ => u_ = .pointer (some ⟨b67, k, none⟩)), (fun u_ _ => u_ = .int .u64 ((kb.words.at k).toNat : Int)), (fun u_ _ => u_ = .bool (decide (((ka.words.at k).toNat : Int) < ((kb.words.at k).toNat : Int)))), (fun u_ _ => u_ = .bool (decide (((ka.words.at k).toNat : Int) < ((kb.words.at k).toNat : Int))))] (fun vs => (4, vs 7) :: (29, vs 6) :: (28, vs 5) :: (27, vs 4) :: (26, vs 3) :: (25, vs 2) :: (24, vs 1) :: (23, vs 0) :: _) ⟨fun _ _ _ _ h => h, fun _ _ _ _ h => h, fun _ _ _ _ h => h, fun _ _ _ _ h => h, fun _ _ _ _ h => h, fun _ _ _ _ h => h, fun _ _ _ _ h => h, fun _ _ _ _ h => h, trivial⟩ (by kernel_rfl) (fun _ => rfl) ⟨?_, ?_, ?_, ?_, ?_, ?_, ?_, ?_, trivial⟩ ?_
      ·
        intro vs W hE hp
        exact dr_plain rfl (dr_ex (v := .int .i64 (k : Int)) (Ex.move rfl rfl) (Bw.refl _) rfl)
      ·
        intro vs W hE hp
        have p0 := hp 0 (by kernel_rfl)
        simp only [List.getD_cons_zero, List.getD_cons_succ] at p0
        exact dr_plain rfl (dr_ex (v := .pointer (some ⟨b65, k, none⟩)) (Ex.indexArr undr118 tySz65 (by omega) (by decide) rfl rfl p0) (Bw.refl _) rfl)
      ·
        intro vs W hE hp
        have p1 := hp 1 (by kernel_rfl)
        simp only [List.getD_cons_zero, List.getD_cons_succ] at p1
        exact dr_plain rfl (dr_ex (v := .int .u64 ((ka.words.at k).toNat : Int)) (Ex.load1 tyOne65 rfl p1 (Reads.of_block ((hS.ext hE).at 1 rfl) k [.int .u64 ((ka.words.at k).toNat : Int)] (Tri.read ka.words (by omega)))) (Bw.refl _) rfl)
      ·
        intro vs W hE hp
        exact dr_plain rfl (dr_ex (v := .int .i64 (k : Int)) (Ex.move rfl rfl) (Bw.refl _) rfl)
      ·
        intro vs W hE hp
        have p3 := hp 3 (by kernel_rfl)
        simp only [List.getD_cons_zero, List.getD_cons_succ] at p3
        exact dr_plain rfl (dr_ex (v := .pointer (some ⟨b67, k, none⟩)) (Ex.indexArr undr118 tySz65 (by omega) (by decide) rfl rfl p3) (Bw.refl _) rfl)
      ·
        intro vs W hE hp
        have p4 := hp 4 (by kernel_rfl)
        simp only [List.getD_cons_zero, List.getD_cons_succ] at p4
        exact dr_plain rfl (dr_ex (v := .int .u64 ((kb.words.at k).toNat : Int)) (Ex.load1 tyOne65 rfl p4 (Reads.of_block ((hS.ext hE).at 0 rfl) k [.int .u64 ((kb.words.at k).toNat : Int)] (Tri.read kb.words (by omega)))) (Bw.refl _) rfl)
      ·
        intro vs W hE hp
        have p2 := hp 2 (by kernel_rfl)
        simp only [List.getD_cons_zero, List.getD_cons_succ] at p2
        have p5 := hp 5 (by kernel_rfl)
        simp only [List.getD_cons_zero, List.getD_cons_succ] at p5
        exact dr_plain rfl (dr_ex (v := .bool (decide (((ka.words.at k).toNat : Int) < ((kb.words.at k).toNat : Int)))) (Ex.lt rfl p2 p5) (Bw.refl _) rfl)
      ·
        intro vs W hE hp
        have p6 := hp 6 (by kernel_rfl)
        simp only [List.getD_cons_zero, List.getD_cons_succ] at p6
        exact dr_plain rfl (dr_ex (v := .bool (decide (((ka.words.at k).toNat : Int) < ((kb.words.at k).toNat : Int)))) (Ex.assign rfl p6) (Bw.refl _) rfl)
      intro vs W75 hE hv
      have hS0 := hS; replace hS := hS.ext hE
      have p0 : vs 0 = .int .i64 (k : Int) := hv 0 (by decide)
      have p1 : vs 1 = .pointer (some ⟨b65, k, none⟩) := hv 1 (by decide)
      have p2 : vs 2 = .int .u64 ((ka.words.at k).toNat : Int) := hv 2 (by decide)
      have p3 : vs 3 = .int .i64 (k : Int) := hv 3 (by decide)
      have p4 : vs 4 = .pointer (some ⟨b67, k, none⟩) := hv 4 (by decide)
      have p5 : vs 5 = .int .u64 ((kb.words.at k).toNat : Int) := hv 5 (by decide)
      have p6 : vs 6 = .bool (decide (((ka.words.at k).toNat : Int) < ((kb.words.at k).toNat : Int))) := hv 6 (by decide)
      have p7 : vs 7 = .bool (decide (((ka.words.at k).toNat : Int) < ((kb.words.at k).toNat : Int))) := hv 7 (by decide)
      refine WL.keep (k := [(23, .int .i64 (k : Int)), (24, .pointer (some ⟨b65, k, none⟩)), (25, .int .u64 ((ka.words.at k).toNat : Int)), (26, .int .i64 (k : Int)), (27, .pointer (some ⟨b67, k, none⟩)), (28, .int .u64 ((kb.words.at k).toNat : Int)), (29, .bool (decide (((ka.words.at k).toNat : Int) < ((kb.words.at k).toNat : Int)))), (4, .bool (decide (((ka.words.at k).toNat : Int) < ((kb.words.at k).toNat : Int))))]) ⟨p0, p1, p2, p3, p4, p5, p6, p7, trivial⟩ ?_
      refine WL.nil ?_
      refine then_normal ?_
      refine WP.ret ?_
      refine inBlock_ret (then_ret (then_ret (inBlock_ret (then_ret (?_)))))
      refine rt1 (v := .bool (decide (((ka.words.at k).toNat : Int) < ((kb.words.at k).toNat : Int)))) rfl rfl ?_
      exact ⟨retb (by first | exact less_at (by omega) heq (by assumption) | exact less_eq (by rw [show (3 : Nat) = k by omega]; exact heq)), hS.bw⟩
    ·
      have hc74' : ((ka.words.at k).toNat : Int) = ((kb.words.at k).toNat : Int) := by simpa using hc74
      refine WP.skip ?_
      refine inBlock_normal ?_
      refine then_normal ?_
      refine WP.region ?_
      refine WL.op (v := .int .i64 (k : Int)) rfl rfl rfl (Ex.move rfl rfl) ?_
      refine WL.op (v := .int .i64 ((k + 1 : Nat) : Int)) rfl rfl rfl (Ex.add rfl rfl rfl (wrap_succ (by omega))) ?_
      refine WL.op (v := .int .i64 ((k + 1 : Nat) : Int)) rfl rfl rfl (Ex.assign rfl rfl) ?_
      refine WL.nil ?_
      refine then_normal ?_
      exact ⟨_, ⟨k + 1, _, fr_keep ⟨rfl, rfl, rfl, trivial⟩, rfl, by omega, hS, less_next heq (by assumption)⟩, by simp only [id]; omega⟩
  ·
    have hc72' : ¬ ((k : Int) < 3) := by simpa using hc72
    refine WP.exit ?_
    refine then_exit (then_exit (inBlock_same (?_)))
    refine then_normal ?_
    refine WP.seq ?_
    refine WP.region ?_
    refine WL.op (v := .bool false) rfl rfl rfl (Ex.assign rfl rfl) ?_
    refine WL.nil ?_
    refine then_normal ?_
    refine WP.ret ?_
    refine ?_
    refine rt1 (v := .bool false) rfl rfl ?_
    exact ⟨retb (by first | exact less_at (by omega) heq (by assumption) | exact less_eq (by rw [show (3 : Nat) = k by omega]; exact heq)), hS.bw⟩
set_option maxRecDepth 100000 in
set_option maxHeartbeats 1000000 in
theorem c_rkright (ka : Ky) (w : World) :
    Calls Try.prog 130 #[.agg ka.enc] w fun e w' => e = .returned (.bool ka.right) ∧ Bw w w' := by
  have hS := St.begin (w := w) (pins := []) trivial
  refine enter (n := 43) Try.func130 rfl rfl (Nat.le_of_ble_eq_true rfl) (l := [(0, .agg ka.enc)]) rfl ?_
  refine WP.seq ?_
  refine WP.region ?_
  refine WL.box (v := .agg ka.enc) hS rfl rfl rfl rfl rfl (fun b76 W77 hS => ?_)
  refine WL.op (v := .bool false) rfl rfl rfl (Ex.assign rfl rfl) ?_
  refine WL.nil ?_
  refine then_normal ?_
  refine WP.seq ?_
  refine WP.seq ?_
  refine WP.region ?_
  refine WL.op (v := .pointer (some ⟨b76, 0, none⟩)) rfl rfl rfl (Ex.fieldAddr' fieldAt61_0 rfl rfl) ?_
  refine WL.op (v := .int .u8 (ka.sort.toNat : Int)) rfl rfl rfl (Ex.load1 tyOne5 rfl rfl (Reads.of_block (hS.at 0 rfl) 0 [.int .u8 (ka.sort.toNat : Int)] rfl)) ?_
  refine WL.nil ?_
  refine then_normal ?_
  refine WP.block ?_
  refine WP.seq ?_
  refine WP.region ?_
  refine WL.op (v := .bool (decide ((ka.sort.toNat : Int) = 1))) rfl rfl rfl (Ex.eq rfl rfl rfl) ?_
  refine WL.op (v := .bool (decide ((ka.sort.toNat : Int) = 1))) rfl rfl rfl (Ex.assign rfl rfl) ?_
  refine WL.nil ?_
  refine then_normal ?_
  refine WP.cond (b := decide ((ka.sort.toNat : Int) = 1)) rfl (fun hc78 => ?_) (fun hc78 => ?_)
  ·
    have hc78' : (ka.sort.toNat : Int) = 1 := by simpa using hc78
    refine WP.seq ?_
    refine WP.region ?_
    refine WL.op (v := .pointer (some ⟨b76, 2, none⟩)) rfl rfl rfl (Ex.fieldAddr' fieldAt61_2 rfl rfl) ?_
    refine WL.op (v := .agg ka.item.enc) rfl rfl rfl (Ex.loadA tyAgg31 rfl rfl (Reads.of_block (hS.at 0 rfl) 2 ka.item.enc.toList rfl) rfl) ?_
    refine WL.call rfl rfl rfl (enterS eg48 (args := [.agg ka.item.enc]) rfl rfl rfl rfl) (c_rright ka.item _) ?_
    rintro e W79 ⟨rfl, hB⟩
    replace hS := hS.ext hB
    refine ⟨_, rfl, ?_⟩
    refine WL.op (v := .bool ka.item.right) rfl rfl rfl (Ex.move rfl rfl) ?_
    rcases Bool.eq_false_or_eq_true (ka.item.right) with hg80 | hg80
    ·
      refine WL.on rfl rfl rfl (congrArg Value.bool hg80) ?_
      refine WL.op (v := .pointer (some ⟨b76, 10, none⟩)) rfl rfl rfl (Ex.fieldAddr' fieldAt61_3 rfl rfl) ?_
      refine WL.on rfl rfl rfl (congrArg Value.bool hg80) ?_
      refine WL.op (v := .int .u8 (ka.rep.toNat : Int)) rfl rfl rfl (Ex.load1 tyOne5 rfl rfl (Reads.of_block (hS.at 0 rfl) 10 [.int .u8 (ka.rep.toNat : Int)] rfl)) ?_
      refine WL.on rfl rfl rfl (congrArg Value.bool hg80) ?_
      refine WL.op (v := .bool (decide ((ka.rep.toNat : Int) < 16))) rfl rfl rfl (Ex.lt rfl rfl rfl) ?_
      refine WL.op (v := .bool (decide ((ka.rep.toNat : Int) < 16))) rfl rfl rfl (Ex.pickT rfl (congrArg Value.bool hg80) rfl) ?_
      refine WL.op (v := .bool (decide ((ka.rep.toNat : Int) < 16))) rfl rfl rfl (Ex.move rfl rfl) ?_
      rcases Bool.eq_false_or_eq_true (decide ((ka.rep.toNat : Int) < 16)) with hg81 | hg81
      ·
        have hg81' : (ka.rep.toNat : Int) < 16 := by simpa using hg81
        refine WL.on rfl rfl rfl (congrArg Value.bool hg81) ?_
        refine WL.op (v := .pointer (some ⟨b76, 11, none⟩)) rfl rfl rfl (Ex.fieldAddr' fieldAt61_4 rfl rfl) ?_
        refine WL.on rfl rfl rfl (congrArg Value.bool hg81) ?_
        refine WL.op (v := .int .u32 (ka.seq.toNat : Int)) rfl rfl rfl (Ex.load1 tyOne34 rfl rfl (Reads.of_block (hS.at 0 rfl) 11 [.int .u32 (ka.seq.toNat : Int)] rfl)) ?_
        refine WL.on rfl rfl rfl (congrArg Value.bool hg81) ?_
        refine WL.op (v := .bool (decide (0 < (ka.seq.toNat : Int)))) rfl rfl rfl (Ex.gt rfl rfl rfl) ?_
        refine WL.op (v := .bool (decide (0 < (ka.seq.toNat : Int)))) rfl rfl rfl (Ex.pickT rfl (congrArg Value.bool hg81) rfl) ?_
        refine WL.op (v := .bool (decide (0 < (ka.seq.toNat : Int)))) rfl rfl rfl (Ex.assign rfl rfl) ?_
        refine WL.nil ?_
        refine then_normal ?_
        refine WP.ret ?_
        refine inBlock_ret (then_ret (?_))
        refine rt1 (v := .bool (decide (0 < (ka.seq.toNat : Int)))) rfl rfl ?_
        exact ⟨retb (by grind [Ky.right, u8_of]), hS.bw⟩
      ·
        have hg81' : ¬ ((ka.rep.toNat : Int) < 16) := by simpa using hg81
        refine WL.off (b' := false) rfl rfl rfl rfl rfl rfl (congrArg Value.bool hg81) rfl ?_
        refine WL.off (b' := false) rfl rfl rfl rfl rfl rfl (congrArg Value.bool hg81) rfl ?_
        refine WL.off (b' := false) rfl rfl rfl rfl rfl rfl (congrArg Value.bool hg81) rfl ?_
        refine WL.op (v := .bool false) rfl rfl rfl (Ex.pickF rfl (congrArg Value.bool hg81) rfl) ?_
        refine WL.op (v := .bool false) rfl rfl rfl (Ex.assign rfl rfl) ?_
        refine WL.nil ?_
        refine then_normal ?_
        refine WP.ret ?_
        refine inBlock_ret (then_ret (?_))
        refine rt1 (v := .bool false) rfl rfl ?_
        exact ⟨retb (by grind [Ky.right, u8_of]), hS.bw⟩
    ·
      refine WL.off (b' := false) rfl rfl rfl rfl rfl rfl (congrArg Value.bool hg80) rfl ?_
      refine WL.off (b' := false) rfl rfl rfl rfl rfl rfl (congrArg Value.bool hg80) rfl ?_
      refine WL.off (b' := false) rfl rfl rfl rfl rfl rfl (congrArg Value.bool hg80) rfl ?_
      refine WL.op (v := .bool false) rfl rfl rfl (Ex.pickF rfl (congrArg Value.bool hg80) rfl) ?_
      refine WL.op (v := .bool false) rfl rfl rfl (Ex.move rfl rfl) ?_
      refine WL.off (b' := false) rfl rfl rfl rfl rfl rfl rfl rfl ?_
      refine WL.off (b' := false) rfl rfl rfl rfl rfl rfl rfl rfl ?_
      refine WL.off (b' := false) rfl rfl rfl rfl rfl rfl rfl rfl ?_
      refine WL.op (v := .bool false) rfl rfl rfl (Ex.pickF rfl rfl rfl) ?_
      refine WL.op (v := .bool false) rfl rfl rfl (Ex.assign rfl rfl) ?_
      refine WL.nil ?_
      refine then_normal ?_
      refine WP.ret ?_
      refine inBlock_ret (then_ret (?_))
      refine rt1 (v := .bool false) rfl rfl ?_
      exact ⟨retb (by grind [Ky.right, u8_of]), hS.bw⟩
  ·
    have hc78' : ¬ ((ka.sort.toNat : Int) = 1) := by simpa using hc78
    refine WP.seq ?_
    refine WP.seq ?_
    refine WP.region ?_
    refine WL.op (v := .bool (decide ((ka.sort.toNat : Int) = 2))) rfl rfl rfl (Ex.eq rfl rfl rfl) ?_
    refine WL.op (v := .bool (decide ((ka.sort.toNat : Int) = 2))) rfl rfl rfl (Ex.assign rfl rfl) ?_
    refine WL.nil ?_
    refine then_normal ?_
    refine WP.cond (b := decide ((ka.sort.toNat : Int) = 2)) rfl (fun hc82 => ?_) (fun hc82 => ?_)
    ·
      have hc82' : (ka.sort.toNat : Int) = 2 := by simpa using hc82
      refine WP.skip ?_
      refine then_normal ?_
      refine WP.condT (congrArg Value.bool hc82) ?_
      refine WP.seq ?_
      refine WP.region ?_
      refine WL.op (v := .pointer (some ⟨b76, 2, none⟩)) rfl rfl rfl (Ex.fieldAddr' fieldAt61_2 rfl rfl) ?_
      refine WL.op (v := .agg ka.item.enc) rfl rfl rfl (Ex.loadA tyAgg31 rfl rfl (Reads.of_block (hS.at 0 rfl) 2 ka.item.enc.toList rfl) rfl) ?_
      refine WL.call rfl rfl rfl (enterS eg48 (args := [.agg ka.item.enc]) rfl rfl rfl rfl) (c_rright ka.item _) ?_
      rintro e W83 ⟨rfl, hB⟩
      replace hS := hS.ext hB
      refine ⟨_, rfl, ?_⟩
      refine WL.op (v := .bool ka.item.right) rfl rfl rfl (Ex.move rfl rfl) ?_
      rcases Bool.eq_false_or_eq_true (ka.item.right) with hg84 | hg84
      ·
        refine WL.on rfl rfl rfl (congrArg Value.bool hg84) ?_
        refine WL.op (v := .pointer (some ⟨b76, 10, none⟩)) rfl rfl rfl (Ex.fieldAddr' fieldAt61_3 rfl rfl) ?_
        refine WL.on rfl rfl rfl (congrArg Value.bool hg84) ?_
        refine WL.op (v := .int .u8 (ka.rep.toNat : Int)) rfl rfl rfl (Ex.load1 tyOne5 rfl rfl (Reads.of_block (hS.at 0 rfl) 10 [.int .u8 (ka.rep.toNat : Int)] rfl)) ?_
        refine WL.on rfl rfl rfl (congrArg Value.bool hg84) ?_
        refine WL.op (v := .bool (decide ((ka.rep.toNat : Int) < 16))) rfl rfl rfl (Ex.lt rfl rfl rfl) ?_
        refine WL.op (v := .bool (decide ((ka.rep.toNat : Int) < 16))) rfl rfl rfl (Ex.pickT rfl (congrArg Value.bool hg84) rfl) ?_
        refine WL.op (v := .bool (decide ((ka.rep.toNat : Int) < 16))) rfl rfl rfl (Ex.move rfl rfl) ?_
        rcases Bool.eq_false_or_eq_true (decide ((ka.rep.toNat : Int) < 16)) with hg85 | hg85
        ·
          have hg85' : (ka.rep.toNat : Int) < 16 := by simpa using hg85
          refine WL.on rfl rfl rfl (congrArg Value.bool hg85) ?_
          refine WL.op (v := .pointer (some ⟨b76, 11, none⟩)) rfl rfl rfl (Ex.fieldAddr' fieldAt61_4 rfl rfl) ?_
          refine WL.on rfl rfl rfl (congrArg Value.bool hg85) ?_
          refine WL.op (v := .int .u32 (ka.seq.toNat : Int)) rfl rfl rfl (Ex.load1 tyOne34 rfl rfl (Reads.of_block (hS.at 0 rfl) 11 [.int .u32 (ka.seq.toNat : Int)] rfl)) ?_
          refine WL.on rfl rfl rfl (congrArg Value.bool hg85) ?_
          refine WL.op (v := .bool (decide ((ka.seq.toNat : Int) = 0))) rfl rfl rfl (Ex.eq rfl rfl rfl) ?_
          refine WL.op (v := .bool (decide ((ka.seq.toNat : Int) = 0))) rfl rfl rfl (Ex.pickT rfl (congrArg Value.bool hg85) rfl) ?_
          refine WL.op (v := .bool (decide ((ka.seq.toNat : Int) = 0))) rfl rfl rfl (Ex.assign rfl rfl) ?_
          refine WL.nil ?_
          refine then_normal ?_
          refine WP.ret ?_
          refine inBlock_ret (then_ret (?_))
          refine rt1 (v := .bool (decide ((ka.seq.toNat : Int) = 0))) rfl rfl ?_
          exact ⟨retb (by grind [Ky.right, u8_of]), hS.bw⟩
        ·
          have hg85' : ¬ ((ka.rep.toNat : Int) < 16) := by simpa using hg85
          refine WL.off (b' := false) rfl rfl rfl rfl rfl rfl (congrArg Value.bool hg85) rfl ?_
          refine WL.off (b' := false) rfl rfl rfl rfl rfl rfl (congrArg Value.bool hg85) rfl ?_
          refine WL.off (b' := false) rfl rfl rfl rfl rfl rfl (congrArg Value.bool hg85) rfl ?_
          refine WL.op (v := .bool false) rfl rfl rfl (Ex.pickF rfl (congrArg Value.bool hg85) rfl) ?_
          refine WL.op (v := .bool false) rfl rfl rfl (Ex.assign rfl rfl) ?_
          refine WL.nil ?_
          refine then_normal ?_
          refine WP.ret ?_
          refine inBlock_ret (then_ret (?_))
          refine rt1 (v := .bool false) rfl rfl ?_
          exact ⟨retb (by grind [Ky.right, u8_of]), hS.bw⟩
      ·
        refine WL.off (b' := false) rfl rfl rfl rfl rfl rfl (congrArg Value.bool hg84) rfl ?_
        refine WL.off (b' := false) rfl rfl rfl rfl rfl rfl (congrArg Value.bool hg84) rfl ?_
        refine WL.off (b' := false) rfl rfl rfl rfl rfl rfl (congrArg Value.bool hg84) rfl ?_
        refine WL.op (v := .bool false) rfl rfl rfl (Ex.pickF rfl (congrArg Value.bool hg84) rfl) ?_
        refine WL.op (v := .bool false) rfl rfl rfl (Ex.move rfl rfl) ?_
        refine WL.off (b' := false) rfl rfl rfl rfl rfl rfl rfl rfl ?_
        refine WL.off (b' := false) rfl rfl rfl rfl rfl rfl rfl rfl ?_
        refine WL.off (b' := false) rfl rfl rfl rfl rfl rfl rfl rfl ?_
        refine WL.op (v := .bool false) rfl rfl rfl (Ex.pickF rfl rfl rfl) ?_
        refine WL.op (v := .bool false) rfl rfl rfl (Ex.assign rfl rfl) ?_
        refine WL.nil ?_
        refine then_normal ?_
        refine WP.ret ?_
        refine inBlock_ret (then_ret (?_))
        refine rt1 (v := .bool false) rfl rfl ?_
        exact ⟨retb (by grind [Ky.right, u8_of]), hS.bw⟩
    ·
      have hc82' : ¬ ((ka.sort.toNat : Int) = 2) := by simpa using hc82
      refine WP.region ?_
      refine WL.op (v := .bool (decide ((ka.sort.toNat : Int) = 3))) rfl rfl rfl (Ex.eq rfl rfl rfl) ?_
      refine WL.op (v := .bool (decide ((ka.sort.toNat : Int) = 3))) rfl rfl rfl (Ex.assign rfl rfl) ?_
      refine WL.nil ?_
      refine then_normal ?_
      refine WP.cond (b := decide ((ka.sort.toNat : Int) = 3)) rfl (fun hc86 => ?_) (fun hc86 => ?_)
      ·
        have hc86' : (ka.sort.toNat : Int) = 3 := by simpa using hc86
        refine WP.seq ?_
        refine WP.region ?_
        refine WL.op (v := .pointer (some ⟨b76, 2, none⟩)) rfl rfl rfl (Ex.fieldAddr' fieldAt61_2 rfl rfl) ?_
        refine WL.op (v := .agg ka.item.enc) rfl rfl rfl (Ex.loadA tyAgg31 rfl rfl (Reads.of_block (hS.at 0 rfl) 2 ka.item.enc.toList rfl) rfl) ?_
        refine WL.call rfl rfl rfl (enterS eg48 (args := [.agg ka.item.enc]) rfl rfl rfl rfl) (c_rright ka.item _) ?_
        rintro e W87 ⟨rfl, hB⟩
        replace hS := hS.ext hB
        refine ⟨_, rfl, ?_⟩
        refine WL.op (v := .bool ka.item.right) rfl rfl rfl (Ex.move rfl rfl) ?_
        rcases Bool.eq_false_or_eq_true (ka.item.right) with hg88 | hg88
        ·
          refine WL.on rfl rfl rfl (congrArg Value.bool hg88) ?_
          refine WL.op (v := .pointer (some ⟨b76, 10, none⟩)) rfl rfl rfl (Ex.fieldAddr' fieldAt61_3 rfl rfl) ?_
          refine WL.on rfl rfl rfl (congrArg Value.bool hg88) ?_
          refine WL.op (v := .int .u8 (ka.rep.toNat : Int)) rfl rfl rfl (Ex.load1 tyOne5 rfl rfl (Reads.of_block (hS.at 0 rfl) 10 [.int .u8 (ka.rep.toNat : Int)] rfl)) ?_
          refine WL.on rfl rfl rfl (congrArg Value.bool hg88) ?_
          refine WL.op (v := .bool (decide ((ka.rep.toNat : Int) < 16))) rfl rfl rfl (Ex.lt rfl rfl rfl) ?_
          refine WL.op (v := .bool (decide ((ka.rep.toNat : Int) < 16))) rfl rfl rfl (Ex.pickT rfl (congrArg Value.bool hg88) rfl) ?_
          refine WL.op (v := .bool (decide ((ka.rep.toNat : Int) < 16))) rfl rfl rfl (Ex.move rfl rfl) ?_
          rcases Bool.eq_false_or_eq_true (decide ((ka.rep.toNat : Int) < 16)) with hg89 | hg89
          ·
            have hg89' : (ka.rep.toNat : Int) < 16 := by simpa using hg89
            refine WL.on rfl rfl rfl (congrArg Value.bool hg89) ?_
            refine WL.op (v := .pointer (some ⟨b76, 11, none⟩)) rfl rfl rfl (Ex.fieldAddr' fieldAt61_4 rfl rfl) ?_
            refine WL.on rfl rfl rfl (congrArg Value.bool hg89) ?_
            refine WL.op (v := .int .u32 (ka.seq.toNat : Int)) rfl rfl rfl (Ex.load1 tyOne34 rfl rfl (Reads.of_block (hS.at 0 rfl) 11 [.int .u32 (ka.seq.toNat : Int)] rfl)) ?_
            refine WL.on rfl rfl rfl (congrArg Value.bool hg89) ?_
            refine WL.op (v := .bool (decide ((ka.seq.toNat : Int) = 0))) rfl rfl rfl (Ex.eq rfl rfl rfl) ?_
            refine WL.op (v := .bool (decide ((ka.seq.toNat : Int) = 0))) rfl rfl rfl (Ex.pickT rfl (congrArg Value.bool hg89) rfl) ?_
            refine WL.op (v := .bool (decide ((ka.seq.toNat : Int) = 0))) rfl rfl rfl (Ex.assign rfl rfl) ?_
            refine WL.nil ?_
            refine then_normal ?_
            refine WP.ret ?_
            refine inBlock_ret (then_ret (?_))
            refine rt1 (v := .bool (decide ((ka.seq.toNat : Int) = 0))) rfl rfl ?_
            exact ⟨retb (by grind [Ky.right, u8_of]), hS.bw⟩
          ·
            have hg89' : ¬ ((ka.rep.toNat : Int) < 16) := by simpa using hg89
            refine WL.off (b' := false) rfl rfl rfl rfl rfl rfl (congrArg Value.bool hg89) rfl ?_
            refine WL.off (b' := false) rfl rfl rfl rfl rfl rfl (congrArg Value.bool hg89) rfl ?_
            refine WL.off (b' := false) rfl rfl rfl rfl rfl rfl (congrArg Value.bool hg89) rfl ?_
            refine WL.op (v := .bool false) rfl rfl rfl (Ex.pickF rfl (congrArg Value.bool hg89) rfl) ?_
            refine WL.op (v := .bool false) rfl rfl rfl (Ex.assign rfl rfl) ?_
            refine WL.nil ?_
            refine then_normal ?_
            refine WP.ret ?_
            refine inBlock_ret (then_ret (?_))
            refine rt1 (v := .bool false) rfl rfl ?_
            exact ⟨retb (by grind [Ky.right, u8_of]), hS.bw⟩
        ·
          refine WL.off (b' := false) rfl rfl rfl rfl rfl rfl (congrArg Value.bool hg88) rfl ?_
          refine WL.off (b' := false) rfl rfl rfl rfl rfl rfl (congrArg Value.bool hg88) rfl ?_
          refine WL.off (b' := false) rfl rfl rfl rfl rfl rfl (congrArg Value.bool hg88) rfl ?_
          refine WL.op (v := .bool false) rfl rfl rfl (Ex.pickF rfl (congrArg Value.bool hg88) rfl) ?_
          refine WL.op (v := .bool false) rfl rfl rfl (Ex.move rfl rfl) ?_
          refine WL.off (b' := false) rfl rfl rfl rfl rfl rfl rfl rfl ?_
          refine WL.off (b' := false) rfl rfl rfl rfl rfl rfl rfl rfl ?_
          refine WL.off (b' := false) rfl rfl rfl rfl rfl rfl rfl rfl ?_
          refine WL.op (v := .bool false) rfl rfl rfl (Ex.pickF rfl rfl rfl) ?_
          refine WL.op (v := .bool false) rfl rfl rfl (Ex.assign rfl rfl) ?_
          refine WL.nil ?_
          refine then_normal ?_
          refine WP.ret ?_
          refine inBlock_ret (then_ret (?_))
          refine rt1 (v := .bool false) rfl rfl ?_
          exact ⟨retb (by grind [Ky.right, u8_of]), hS.bw⟩
      ·
        have hc86' : ¬ ((ka.sort.toNat : Int) = 3) := by simpa using hc86
        refine WP.seq ?_
        refine WP.region ?_
        refine WL.op (v := .bool (decide ((ka.sort.toNat : Int) = 4))) rfl rfl rfl (Ex.eq rfl rfl rfl) ?_
        refine WL.op (v := .bool (decide ((ka.sort.toNat : Int) = 4))) rfl rfl rfl (Ex.assign rfl rfl) ?_
        refine WL.nil ?_
        refine then_normal ?_
        refine WP.cond (b := decide ((ka.sort.toNat : Int) = 4)) rfl (fun hc90 => ?_) (fun hc90 => ?_)
        ·
          have hc90' : (ka.sort.toNat : Int) = 4 := by simpa using hc90
          refine WP.seq ?_
          refine WP.region ?_
          refine WL.op (v := .agg ka.enc) rfl rfl rfl (Ex.loadA tyAgg61 rfl rfl (Reads.of_block (hS.at 0 rfl) 0 ka.enc.toList rfl) rfl) ?_
          refine WL.op (v := .pointer (some ⟨b76, 1, none⟩)) rfl rfl rfl (Ex.fieldAddr' fieldAt61_1 rfl rfl) ?_
          refine WL.op (v := .int .u16 (ka.cart.toNat : Int)) rfl rfl rfl (Ex.load1 tyOne29 rfl rfl (Reads.of_block (hS.at 0 rfl) 1 [.int .u16 (ka.cart.toNat : Int)] rfl)) ?_
          refine WL.op (v := .agg (Ky.mk (4 : UInt8) ka.cart Nm.zero 0 0).enc) rfl rfl rfl (Ex.build (ps := [(0, .int .u8 4), (1, .int .u16 (ka.cart.toNat : Int))]) rfl rfl (by kernel_rfl)) ?_
          refine WL.op (v := .bool (decide (ka = Ky.mk (4 : UInt8) ka.cart Nm.zero 0 0))) rfl rfl rfl (Ex.binop rfl rfl rfl (eqlS61 _ _ _ _ _)) ?_
          refine WL.op (v := .bool (decide (ka = Ky.mk (4 : UInt8) ka.cart Nm.zero 0 0))) rfl rfl rfl (Ex.assign rfl rfl) ?_
          refine WL.nil ?_
          refine then_normal ?_
          refine WP.ret ?_
          refine inBlock_ret (then_ret (?_))
          refine rt1 (v := .bool (decide (ka = Ky.mk (4 : UInt8) ka.cart Nm.zero 0 0))) rfl rfl ?_
          exact ⟨retb (by grind [Ky.right, u8_of]), hS.bw⟩
        ·
          have hc90' : ¬ ((ka.sort.toNat : Int) = 4) := by simpa using hc90
          refine WP.skip ?_
          refine inBlock_normal ?_
          refine then_normal ?_
          refine WP.seq ?_
          refine WP.region ?_
          refine WL.op (v := .bool false) rfl rfl rfl (Ex.assign rfl rfl) ?_
          refine WL.nil ?_
          refine then_normal ?_
          refine WP.ret ?_
          refine ?_
          refine rt1 (v := .bool false) rfl rfl ?_
          exact ⟨retb (by grind [Ky.right, u8_of]), hS.bw⟩
set_option maxRecDepth 100000 in
set_option maxHeartbeats 1000000 in
theorem c_rover (x y : Vl) (w : World) :
    Calls Try.prog 77 #[.agg x.enc, .agg y.enc] w fun e w' => e = .returned (.bool (x.over y)) ∧ Bw w w' := by
  have hS := St.begin (w := w) (pins := []) trivial
  refine enter (n := 22) Try.func77 rfl rfl (Nat.le_of_ble_eq_true rfl) (l := [(0, .agg x.enc), (1, .agg y.enc)]) rfl ?_
  refine WP.seq ?_
  refine WP.region ?_
  refine WL.box (v := .agg x.enc) hS rfl rfl rfl rfl rfl (fun b91 W92 hS => ?_)
  refine WL.box (v := .agg y.enc) hS rfl rfl rfl rfl rfl (fun b93 W94 hS => ?_)
  refine WL.op (v := .bool false) rfl rfl rfl (Ex.assign rfl rfl) ?_
  refine WL.nil ?_
  refine then_normal ?_
  refine WP.seq ?_
  refine WP.seq ?_
  refine WP.region ?_
  refine WL.op (v := .pointer (some ⟨b91, 0, none⟩)) rfl rfl rfl (Ex.fieldAddr' fieldAt67_0 rfl rfl) ?_
  refine WL.op (v := .int .u64 (x.n.toNat : Int)) rfl rfl rfl (Ex.load1 tyOne65 rfl rfl (Reads.of_block (hS.at 1 rfl) 0 [.int .u64 (x.n.toNat : Int)] rfl)) ?_
  refine WL.op (v := .pointer (some ⟨b93, 0, none⟩)) rfl rfl rfl (Ex.fieldAddr' fieldAt67_0 rfl rfl) ?_
  refine WL.op (v := .int .u64 (y.n.toNat : Int)) rfl rfl rfl (Ex.load1 tyOne65 rfl rfl (Reads.of_block (hS.at 0 rfl) 0 [.int .u64 (y.n.toNat : Int)] rfl)) ?_
  refine WL.op (v := .bool (!decide ((x.n.toNat : Int) = (y.n.toNat : Int)))) rfl rfl rfl (Ex.ne rfl rfl rfl) ?_
  refine WL.nil ?_
  refine then_normal ?_
  refine WP.cond (b := !decide ((x.n.toNat : Int) = (y.n.toNat : Int))) rfl (fun hc95 => ?_) (fun hc95 => ?_)
  ·
    have hc95' : ¬ ((x.n.toNat : Int) = (y.n.toNat : Int)) := by simpa using hc95
    refine WP.seq ?_
    refine WP.region ?_
    refine WL.op (v := .pointer (some ⟨b91, 0, none⟩)) rfl rfl rfl (Ex.fieldAddr' fieldAt67_0 rfl rfl) ?_
    refine WL.op (v := .int .u64 (x.n.toNat : Int)) rfl rfl rfl (Ex.load1 tyOne65 rfl rfl (Reads.of_block (hS.at 1 rfl) 0 [.int .u64 (x.n.toNat : Int)] rfl)) ?_
    refine WL.op (v := .pointer (some ⟨b93, 0, none⟩)) rfl rfl rfl (Ex.fieldAddr' fieldAt67_0 rfl rfl) ?_
    refine WL.op (v := .int .u64 (y.n.toNat : Int)) rfl rfl rfl (Ex.load1 tyOne65 rfl rfl (Reads.of_block (hS.at 0 rfl) 0 [.int .u64 (y.n.toNat : Int)] rfl)) ?_
    refine WL.op (v := .bool (decide ((y.n.toNat : Int) < (x.n.toNat : Int)))) rfl rfl rfl (Ex.gt rfl rfl rfl) ?_
    refine WL.op (v := .bool (decide ((y.n.toNat : Int) < (x.n.toNat : Int)))) rfl rfl rfl (Ex.assign rfl rfl) ?_
    refine WL.nil ?_
    refine then_normal ?_
    refine WP.ret ?_
    refine then_ret (?_)
    refine rt1 (v := .bool (decide ((y.n.toNat : Int) < (x.n.toNat : Int)))) rfl rfl ?_
    exact ⟨retb (by grind [Vl.over, Nm.u_nat]), hS.bw⟩
  ·
    have hc95' : (x.n.toNat : Int) = (y.n.toNat : Int) := by simpa using hc95
    refine WP.skip ?_
    refine then_normal ?_
    refine WP.seq ?_
    refine WP.drawL 8 [(fun u_ _ => u_ = .pointer (some ⟨b91, 1, none⟩)), (fun u_ _ => u_ = .agg x.text.enc), (fun u_ _ => u_ = .int .u64 (x.text.u.toNat : Int)), (fun u_ _ => u_ = .pointer (some ⟨b93, 1, none⟩)), (fun u_ _ => u_ = .agg y.text.enc), (fun u_ _ => u_ = .int .u64 (y.text.u.toNat : Int)), (fun u_ _ => u_ = .bool (decide ((y.text.u.toNat : Int) ≤ (x.text.u.toNat : Int)))), (fun u_ _ => u_ = .bool (decide ((y.text.u.toNat : Int) ≤ (x.text.u.toNat : Int))))] (fun vs => (4, vs 7) :: (21, vs 6) :: (20, vs 5) :: (19, vs 4) :: (18, vs 3) :: (17, vs 2) :: (16, vs 1) :: (15, vs 0) :: _) ⟨fun _ _ _ _ h => h, fun _ _ _ _ h => h, fun _ _ _ _ h => h, fun _ _ _ _ h => h, fun _ _ _ _ h => h, fun _ _ _ _ h => h, fun _ _ _ _ h => h, fun _ _ _ _ h => h, trivial⟩ (by kernel_rfl) (fun _ => rfl) ⟨?_, ?_, ?_, ?_, ?_, ?_, ?_, ?_, trivial⟩ ?_
    ·
      intro vs W hE hp
      exact dr_plain rfl (dr_ex (v := .pointer (some ⟨b91, 1, none⟩)) (Ex.fieldAddr' fieldAt67_1 rfl rfl) (Bw.refl _) rfl)
    ·
      intro vs W hE hp
      have p0 := hp 0 (by kernel_rfl)
      simp only [List.getD_cons_zero, List.getD_cons_succ] at p0
      exact dr_plain rfl (dr_ex (v := .agg x.text.enc) (Ex.loadA tyAgg31 rfl p0 (Reads.of_block ((hS.ext hE).at 1 rfl) 1 x.text.enc.toList rfl) rfl) (Bw.refl _) rfl)
    ·
      intro vs W hE hp
      have p1 := hp 1 (by kernel_rfl)
      simp only [List.getD_cons_zero, List.getD_cons_succ] at p1
      exact dr_plain rfl (dr_callS (v := .int .u64 (x.text.u.toNat : Int)) (enterS eg115 (args := [.agg x.text.enc]) rfl rfl rfl (l1 p1)) (c_rnumber x.text _) (fun _ => rfl))
    ·
      intro vs W hE hp
      exact dr_plain rfl (dr_ex (v := .pointer (some ⟨b93, 1, none⟩)) (Ex.fieldAddr' fieldAt67_1 rfl rfl) (Bw.refl _) rfl)
    ·
      intro vs W hE hp
      have p3 := hp 3 (by kernel_rfl)
      simp only [List.getD_cons_zero, List.getD_cons_succ] at p3
      exact dr_plain rfl (dr_ex (v := .agg y.text.enc) (Ex.loadA tyAgg31 rfl p3 (Reads.of_block ((hS.ext hE).at 0 rfl) 1 y.text.enc.toList rfl) rfl) (Bw.refl _) rfl)
    ·
      intro vs W hE hp
      have p4 := hp 4 (by kernel_rfl)
      simp only [List.getD_cons_zero, List.getD_cons_succ] at p4
      exact dr_plain rfl (dr_callS (v := .int .u64 (y.text.u.toNat : Int)) (enterS eg115 (args := [.agg y.text.enc]) rfl rfl rfl (l1 p4)) (c_rnumber y.text _) (fun _ => rfl))
    ·
      intro vs W hE hp
      have p2 := hp 2 (by kernel_rfl)
      simp only [List.getD_cons_zero, List.getD_cons_succ] at p2
      have p5 := hp 5 (by kernel_rfl)
      simp only [List.getD_cons_zero, List.getD_cons_succ] at p5
      exact dr_plain rfl (dr_ex (v := .bool (decide ((y.text.u.toNat : Int) ≤ (x.text.u.toNat : Int)))) (Ex.ge rfl p2 p5) (Bw.refl _) rfl)
    ·
      intro vs W hE hp
      have p6 := hp 6 (by kernel_rfl)
      simp only [List.getD_cons_zero, List.getD_cons_succ] at p6
      exact dr_plain rfl (dr_ex (v := .bool (decide ((y.text.u.toNat : Int) ≤ (x.text.u.toNat : Int)))) (Ex.assign rfl p6) (Bw.refl _) rfl)
    intro vs W96 hE hv
    have hS0 := hS; replace hS := hS.ext hE
    have p0 : vs 0 = .pointer (some ⟨b91, 1, none⟩) := hv 0 (by decide)
    have p1 : vs 1 = .agg x.text.enc := hv 1 (by decide)
    have p2 : vs 2 = .int .u64 (x.text.u.toNat : Int) := hv 2 (by decide)
    have p3 : vs 3 = .pointer (some ⟨b93, 1, none⟩) := hv 3 (by decide)
    have p4 : vs 4 = .agg y.text.enc := hv 4 (by decide)
    have p5 : vs 5 = .int .u64 (y.text.u.toNat : Int) := hv 5 (by decide)
    have p6 : vs 6 = .bool (decide ((y.text.u.toNat : Int) ≤ (x.text.u.toNat : Int))) := hv 6 (by decide)
    have p7 : vs 7 = .bool (decide ((y.text.u.toNat : Int) ≤ (x.text.u.toNat : Int))) := hv 7 (by decide)
    refine WL.keep (k := [(15, .pointer (some ⟨b91, 1, none⟩)), (16, .agg x.text.enc), (17, .int .u64 (x.text.u.toNat : Int)), (18, .pointer (some ⟨b93, 1, none⟩)), (19, .agg y.text.enc), (20, .int .u64 (y.text.u.toNat : Int)), (21, .bool (decide ((y.text.u.toNat : Int) ≤ (x.text.u.toNat : Int)))), (4, .bool (decide ((y.text.u.toNat : Int) ≤ (x.text.u.toNat : Int))))]) ⟨p0, p1, p2, p3, p4, p5, p6, p7, trivial⟩ ?_
    refine WL.nil ?_
    refine then_normal ?_
    refine WP.ret ?_
    refine ?_
    refine rt1 (v := .bool (decide ((y.text.u.toNat : Int) ≤ (x.text.u.toNat : Int)))) rfl rfl ?_
    exact ⟨retb (by grind [Vl.over, Nm.u_nat]), hS.bw⟩
set_option maxRecDepth 100000 in
set_option maxHeartbeats 1000000 in
theorem c_rmore (x y : Vl) (w : World) :
    Calls Try.prog 71 #[.agg x.enc, .agg y.enc] w fun e w' => e = .returned (.agg (x.more y).enc) ∧ Bw w w' := by
  have hS := St.begin (w := w) (pins := []) trivial
  refine enter (n := 10) Try.func71 rfl rfl (Nat.le_of_ble_eq_true rfl) (l := [(0, .agg x.enc), (1, .agg y.enc)]) rfl ?_
  refine WP.seq ?_
  refine WP.region ?_
  refine WL.box (v := .agg x.enc) hS rfl rfl rfl rfl rfl (fun b97 W98 hS => ?_)
  refine WL.box (v := .agg y.enc) hS rfl rfl rfl rfl rfl (fun b99 W100 hS => ?_)
  refine WL.alloc zv67 hS rfl rfl rfl rfl (fun b101 W102 hS => ?_)
  refine WL.nil ?_
  refine then_normal ?_
  refine WP.seq ?_
  refine WP.seq ?_
  refine WP.region ?_
  refine WL.op (v := .agg x.enc) rfl rfl rfl (Ex.loadA tyAgg67 rfl rfl (Reads.of_block (hS.at 2 rfl) 0 x.enc.toList rfl) rfl) ?_
  refine WL.op (v := .agg y.enc) rfl rfl rfl (Ex.loadA tyAgg67 rfl rfl (Reads.of_block (hS.at 1 rfl) 0 y.enc.toList rfl) rfl) ?_
  refine WL.call rfl rfl rfl (enterS eg77 (args := [.agg x.enc, .agg y.enc]) rfl rfl rfl rfl) (c_rover x y _) ?_
  rintro e W103 ⟨rfl, hB⟩
  replace hS := hS.ext hB
  refine ⟨_, rfl, ?_⟩
  refine WL.nil ?_
  refine then_normal ?_
  refine WP.cond (b := x.over y) rfl (fun hc104 => ?_) (fun hc104 => ?_)
  ·
    refine WP.seq ?_
    refine WP.region ?_
    refine WL.op (v := .agg x.enc) rfl rfl rfl (Ex.loadA tyAgg67 rfl rfl (Reads.of_block (hS.at 2 rfl) 0 x.enc.toList rfl) rfl) ?_
    refine WL.store tySz67 hS 0 rfl rfl rfl rfl rfl rfl rfl rfl rfl (C' := x.enc) rfl ((b101, .cells x.enc 67) :: (b99, .cells y.enc 67) :: (b97, .cells x.enc 67) :: []) rfl (fun W105 hS => ?_)
    refine WL.nil ?_
    refine then_normal ?_
    refine WP.ret ?_
    refine then_ret (?_)
    refine rtC1 rfl tyAgg67 rfl (Reads.of_block (hS.at 0 rfl) 0 x.enc.toList rfl) rfl ?_
    exact ⟨by rw [Vl.more, hc104]; rfl, hS.bw⟩
  ·
    refine WP.skip ?_
    refine then_normal ?_
    refine WP.seq ?_
    refine WP.region ?_
    refine WL.op (v := .agg y.enc) rfl rfl rfl (Ex.loadA tyAgg67 rfl rfl (Reads.of_block (hS.at 1 rfl) 0 y.enc.toList rfl) rfl) ?_
    refine WL.store tySz67 hS 0 rfl rfl rfl rfl rfl rfl rfl rfl rfl (C' := y.enc) rfl ((b101, .cells y.enc 67) :: (b99, .cells y.enc 67) :: (b97, .cells x.enc 67) :: []) rfl (fun W106 hS => ?_)
    refine WL.nil ?_
    refine then_normal ?_
    refine WP.ret ?_
    refine ?_
    refine rtC1 rfl tyAgg67 rfl (Reads.of_block (hS.at 0 rfl) 0 y.enc.toList rfl) rfl ?_
    exact ⟨by rw [Vl.more, hc104]; rfl, hS.bw⟩
set_option maxRecDepth 100000 in
set_option maxHeartbeats 1000000 in
theorem c_raright (x : At) (w : World) :
    Calls Try.prog 106 #[.agg x.enc] w fun e w' => e = .returned (.bool x.right) ∧ Bw w w' := by
  have hS := St.begin (w := w) (pins := []) trivial
  refine enter (n := 75) Try.func106 rfl rfl (Nat.le_of_ble_eq_true rfl) (l := [(0, .agg x.enc)]) rfl ?_
  refine WP.seq ?_
  refine WP.region ?_
  refine WL.box (v := .agg x.enc) hS rfl rfl rfl rfl rfl (fun b107 W108 hS => ?_)
  refine WL.op (v := .bool false) rfl rfl rfl (Ex.assign rfl rfl) ?_
  refine WL.nil ?_
  refine then_normal ?_
  refine WP.seq ?_
  refine WP.seq ?_
  refine WP.region ?_
  refine WL.op (v := .pointer (some ⟨b107, 0, none⟩)) rfl rfl rfl (Ex.fieldAddr' fieldAt71_0 rfl rfl) ?_
  refine WL.op (v := .agg x.k.enc) rfl rfl rfl (Ex.loadA tyAgg61 rfl rfl (Reads.of_block (hS.at 0 rfl) 0 x.k.enc.toList rfl) rfl) ?_
  refine WL.call rfl rfl rfl (enterS eg130 (args := [.agg x.k.enc]) rfl rfl rfl rfl) (c_rkright x.k _) ?_
  rintro e W109 ⟨rfl, hB⟩
  replace hS := hS.ext hB
  refine ⟨_, rfl, ?_⟩
  refine WL.op (v := .bool (!x.k.right)) rfl rfl rfl (Ex.not rfl rfl) ?_
  refine WL.nil ?_
  refine then_normal ?_
  refine WP.cond (b := !x.k.right) rfl (fun hc110 => ?_) (fun hc110 => ?_)
  ·
    have hc111 : x.k.right = false := by simpa using hc110
    refine WP.seq ?_
    refine WP.region ?_
    refine WL.op (v := .bool false) rfl rfl rfl (Ex.assign rfl rfl) ?_
    refine WL.nil ?_
    refine then_normal ?_
    refine WP.ret ?_
    refine then_ret (?_)
    refine rt1 (v := .bool false) rfl rfl ?_
    exact ⟨retb (by grind [At.right, Ky.right_sort4, Vl.tag, Vl.half, Vl.note, Vl.bare, note_eq, UInt64.toNat_mod, UInt64.toNat_div]), hS.bw⟩
  ·
    have hc112 : x.k.right = true := by simpa using hc110
    refine WP.skip ?_
    refine then_normal ?_
    refine WP.seq ?_
    refine WP.region ?_
    refine WL.op (v := .pointer (some ⟨b107, 12, none⟩)) rfl rfl rfl (Ex.fieldAddr' fieldAt71_1 rfl rfl) ?_
    refine WL.op (v := .pointer (some ⟨b107, 13, none⟩)) rfl rfl rfl (Ex.fieldAddr' fieldAt67_1 rfl rfl) ?_
    refine WL.op (v := .agg x.v.text.enc) rfl rfl rfl (Ex.loadA tyAgg31 rfl rfl (Reads.of_block (hS.at 0 rfl) 13 x.v.text.enc.toList rfl) rfl) ?_
    refine WL.op (v := .agg Nm.zero.enc) rfl rfl rfl (Ex.build (ps := []) rfl rfl (by kernel_rfl)) ?_
    refine WL.op (v := .bool (decide (x.v.text = Nm.zero))) rfl rfl rfl (Ex.binop rfl rfl rfl (eqlS31 _ _ _ _ _)) ?_
    refine WL.op (v := .bool (decide (x.v.text = Nm.zero))) rfl rfl rfl (Ex.assign rfl rfl) ?_
    refine WL.nil ?_
    refine then_normal ?_
    refine WP.seq ?_
    refine WP.seq ?_
    refine WP.region ?_
    refine WL.op (v := .pointer (some ⟨b107, 0, none⟩)) rfl rfl rfl (Ex.fieldAddr' fieldAt71_0 rfl rfl) ?_
    refine WL.op (v := .pointer (some ⟨b107, 0, none⟩)) rfl rfl rfl (Ex.fieldAddr' fieldAt61_0 rfl rfl) ?_
    refine WL.op (v := .int .u8 (x.k.sort.toNat : Int)) rfl rfl rfl (Ex.load1 tyOne5 rfl rfl (Reads.of_block (hS.at 0 rfl) 0 [.int .u8 (x.k.sort.toNat : Int)] rfl)) ?_
    refine WL.nil ?_
    refine then_normal ?_
    refine WP.block ?_
    refine WP.seq ?_
    refine WP.region ?_
    refine WL.op (v := .bool (decide ((x.k.sort.toNat : Int) = 1))) rfl rfl rfl (Ex.eq rfl rfl rfl) ?_
    refine WL.op (v := .bool (decide ((x.k.sort.toNat : Int) = 1))) rfl rfl rfl (Ex.assign rfl rfl) ?_
    refine WL.nil ?_
    refine then_normal ?_
    refine WP.cond (b := decide ((x.k.sort.toNat : Int) = 1)) rfl (fun hc113 => ?_) (fun hc113 => ?_)
    ·
      have hc113' : (x.k.sort.toNat : Int) = 1 := by simpa using hc113
      refine WP.seq ?_
      refine WP.region ?_
      refine WL.op (v := .bool (decide (x.v.text = Nm.zero))) rfl rfl rfl (Ex.move rfl rfl) ?_
      refine WL.op (v := .bool (decide (x.v.text = Nm.zero))) rfl rfl rfl (Ex.move rfl rfl) ?_
      rcases Bool.eq_false_or_eq_true (decide (x.v.text = Nm.zero)) with hg114 | hg114
      ·
        have hg114' : x.v.text = Nm.zero := by simpa using hg114
        refine WL.on rfl rfl rfl (congrArg Value.bool hg114) ?_
        refine WL.op (v := .pointer (some ⟨b107, 12, none⟩)) rfl rfl rfl (Ex.fieldAddr' fieldAt71_1 rfl rfl) ?_
        refine WL.on rfl rfl rfl (congrArg Value.bool hg114) ?_
        refine WL.op (v := .pointer (some ⟨b107, 12, none⟩)) rfl rfl rfl (Ex.fieldAddr' fieldAt67_0 rfl rfl) ?_
        refine WL.on rfl rfl rfl (congrArg Value.bool hg114) ?_
        refine WL.op (v := .int .u64 (x.v.n.toNat : Int)) rfl rfl rfl (Ex.load1 tyOne65 rfl rfl (Reads.of_block (hS.at 0 rfl) 12 [.int .u64 (x.v.n.toNat : Int)] rfl)) ?_
        refine WL.on rfl rfl rfl (congrArg Value.bool hg114) ?_
        refine WL.op (v := .bool (decide ((x.v.n.toNat : Int) = 1))) rfl rfl rfl (Ex.eq rfl rfl rfl) ?_
        refine WL.on rfl rfl rfl (congrArg Value.bool hg114) ?_
        refine WL.op (v := .bool (decide ((x.v.n.toNat : Int) = 1))) rfl rfl rfl (Ex.move rfl rfl) ?_
        rcases Bool.eq_false_or_eq_true (decide ((x.v.n.toNat : Int) = 1)) with hg115 | hg115
        ·
          have hg115' : (x.v.n.toNat : Int) = 1 := by simpa using hg115
          refine WL.off (b' := true) rfl rfl rfl rfl rfl rfl (congrArg Value.bool hg115) rfl ?_
          refine WL.off (b' := true) rfl rfl rfl rfl rfl rfl (congrArg Value.bool hg115) rfl ?_
          refine WL.off (b' := true) rfl rfl rfl rfl rfl rfl (congrArg Value.bool hg115) rfl ?_
          refine WL.off (b' := true) rfl rfl rfl rfl rfl rfl (congrArg Value.bool hg115) rfl ?_
          refine WL.on rfl rfl rfl (congrArg Value.bool hg114) ?_
          refine WL.op (v := .bool true) rfl rfl rfl (Ex.pickT rfl (congrArg Value.bool hg115) rfl) ?_
          refine WL.op (v := .bool true) rfl rfl rfl (Ex.pickT rfl (congrArg Value.bool hg114) rfl) ?_
          refine WL.op (v := .bool true) rfl rfl rfl (Ex.assign rfl rfl) ?_
          refine WL.nil ?_
          refine then_normal ?_
          refine WP.ret ?_
          refine inBlock_ret (then_ret (?_))
          refine rt1 (v := .bool true) rfl rfl ?_
          exact ⟨retb (by grind [At.right, Ky.right_sort4, Vl.tag, Vl.half, Vl.note, Vl.bare, note_eq, UInt64.toNat_mod, UInt64.toNat_div]), hS.bw⟩
        ·
          have hg115' : ¬ ((x.v.n.toNat : Int) = 1) := by simpa using hg115
          refine WL.on rfl rfl rfl (congrArg Value.bool hg115) ?_
          refine WL.op (v := .pointer (some ⟨b107, 12, none⟩)) rfl rfl rfl (Ex.fieldAddr' fieldAt71_1 rfl rfl) ?_
          refine WL.on rfl rfl rfl (congrArg Value.bool hg115) ?_
          refine WL.op (v := .pointer (some ⟨b107, 12, none⟩)) rfl rfl rfl (Ex.fieldAddr' fieldAt67_0 rfl rfl) ?_
          refine WL.on rfl rfl rfl (congrArg Value.bool hg115) ?_
          refine WL.op (v := .int .u64 (x.v.n.toNat : Int)) rfl rfl rfl (Ex.load1 tyOne65 rfl rfl (Reads.of_block (hS.at 0 rfl) 12 [.int .u64 (x.v.n.toNat : Int)] rfl)) ?_
          refine WL.on rfl rfl rfl (congrArg Value.bool hg115) ?_
          refine WL.op (v := .bool (decide ((x.v.n.toNat : Int) = 2))) rfl rfl rfl (Ex.eq rfl rfl rfl) ?_
          refine WL.on rfl rfl rfl (congrArg Value.bool hg114) ?_
          refine WL.op (v := .bool (decide ((x.v.n.toNat : Int) = 2))) rfl rfl rfl (Ex.pickF rfl (congrArg Value.bool hg115) rfl) ?_
          refine WL.op (v := .bool (decide ((x.v.n.toNat : Int) = 2))) rfl rfl rfl (Ex.pickT rfl (congrArg Value.bool hg114) rfl) ?_
          refine WL.op (v := .bool (decide ((x.v.n.toNat : Int) = 2))) rfl rfl rfl (Ex.assign rfl rfl) ?_
          refine WL.nil ?_
          refine then_normal ?_
          refine WP.ret ?_
          refine inBlock_ret (then_ret (?_))
          refine rt1 (v := .bool (decide ((x.v.n.toNat : Int) = 2))) rfl rfl ?_
          exact ⟨retb (by grind [At.right, Ky.right_sort4, Vl.tag, Vl.half, Vl.note, Vl.bare, note_eq, UInt64.toNat_mod, UInt64.toNat_div]), hS.bw⟩
      ·
        have hg114' : ¬ (x.v.text = Nm.zero) := by simpa using hg114
        refine WL.off (b' := false) rfl rfl rfl rfl rfl rfl (congrArg Value.bool hg114) rfl ?_
        refine WL.off (b' := false) rfl rfl rfl rfl rfl rfl (congrArg Value.bool hg114) rfl ?_
        refine WL.off (b' := false) rfl rfl rfl rfl rfl rfl (congrArg Value.bool hg114) rfl ?_
        refine WL.off (b' := false) rfl rfl rfl rfl rfl rfl (congrArg Value.bool hg114) rfl ?_
        refine WL.off (b' := false) rfl rfl rfl rfl rfl rfl (congrArg Value.bool hg114) rfl ?_
        refine WL.offU rfl rfl rfl rfl rfl rfl ?_
        refine WL.offU rfl rfl rfl rfl rfl rfl ?_
        refine WL.offU rfl rfl rfl rfl rfl rfl ?_
        refine WL.offU rfl rfl rfl rfl rfl rfl ?_
        refine WL.off (b' := false) rfl rfl rfl rfl rfl rfl (congrArg Value.bool hg114) rfl ?_
        refine WL.op (v := .bool false) rfl rfl rfl (Ex.pickF rfl (congrArg Value.bool hg114) rfl) ?_
        refine WL.op (v := .bool false) rfl rfl rfl (Ex.assign rfl rfl) ?_
        refine WL.nil ?_
        refine then_normal ?_
        refine WP.ret ?_
        refine inBlock_ret (then_ret (?_))
        refine rt1 (v := .bool false) rfl rfl ?_
        exact ⟨retb (by grind [At.right, Ky.right_sort4, Vl.tag, Vl.half, Vl.note, Vl.bare, note_eq, UInt64.toNat_mod, UInt64.toNat_div]), hS.bw⟩
    ·
      have hc113' : ¬ ((x.k.sort.toNat : Int) = 1) := by simpa using hc113
      refine WP.seq ?_
      refine WP.seq ?_
      refine WP.region ?_
      refine WL.op (v := .bool (decide ((x.k.sort.toNat : Int) = 2))) rfl rfl rfl (Ex.eq rfl rfl rfl) ?_
      refine WL.op (v := .bool (decide ((x.k.sort.toNat : Int) = 2))) rfl rfl rfl (Ex.assign rfl rfl) ?_
      refine WL.nil ?_
      refine then_normal ?_
      refine WP.cond (b := decide ((x.k.sort.toNat : Int) = 2)) rfl (fun hc116 => ?_) (fun hc116 => ?_)
      ·
        have hc116' : (x.k.sort.toNat : Int) = 2 := by simpa using hc116
        refine WP.skip ?_
        refine then_normal ?_
        refine WP.condT (congrArg Value.bool hc116) ?_
        refine WP.seq ?_
        refine WP.region ?_
        refine WL.op (v := .bool (decide (x.v.text = Nm.zero))) rfl rfl rfl (Ex.move rfl rfl) ?_
        refine WL.op (v := .bool (decide (x.v.text = Nm.zero))) rfl rfl rfl (Ex.move rfl rfl) ?_
        rcases Bool.eq_false_or_eq_true (decide (x.v.text = Nm.zero)) with hg117 | hg117
        ·
          have hg117' : x.v.text = Nm.zero := by simpa using hg117
          refine WL.on rfl rfl rfl (congrArg Value.bool hg117) ?_
          refine WL.op (v := .pointer (some ⟨b107, 12, none⟩)) rfl rfl rfl (Ex.fieldAddr' fieldAt71_1 rfl rfl) ?_
          refine WL.on rfl rfl rfl (congrArg Value.bool hg117) ?_
          refine WL.op (v := .pointer (some ⟨b107, 12, none⟩)) rfl rfl rfl (Ex.fieldAddr' fieldAt67_0 rfl rfl) ?_
          refine WL.on rfl rfl rfl (congrArg Value.bool hg117) ?_
          refine WL.op (v := .int .u64 (x.v.n.toNat : Int)) rfl rfl rfl (Ex.load1 tyOne65 rfl rfl (Reads.of_block (hS.at 0 rfl) 12 [.int .u64 (x.v.n.toNat : Int)] rfl)) ?_
          refine WL.on rfl rfl rfl (congrArg Value.bool hg117) ?_
          refine WL.op (v := .bool (decide (1 ≤ (x.v.n.toNat : Int)))) rfl rfl rfl (Ex.ge rfl rfl rfl) ?_
          refine WL.op (v := .bool (decide (1 ≤ (x.v.n.toNat : Int)))) rfl rfl rfl (Ex.pickT rfl (congrArg Value.bool hg117) rfl) ?_
          refine WL.op (v := .bool (decide (1 ≤ (x.v.n.toNat : Int)))) rfl rfl rfl (Ex.move rfl rfl) ?_
          rcases Bool.eq_false_or_eq_true (decide (1 ≤ (x.v.n.toNat : Int))) with hg118 | hg118
          ·
            have hg118' : 1 ≤ (x.v.n.toNat : Int) := by simpa using hg118
            refine WL.on rfl rfl rfl (congrArg Value.bool hg118) ?_
            refine WL.op (v := .pointer (some ⟨b107, 12, none⟩)) rfl rfl rfl (Ex.fieldAddr' fieldAt71_1 rfl rfl) ?_
            refine WL.on rfl rfl rfl (congrArg Value.bool hg118) ?_
            refine WL.op (v := .pointer (some ⟨b107, 12, none⟩)) rfl rfl rfl (Ex.fieldAddr' fieldAt67_0 rfl rfl) ?_
            refine WL.on rfl rfl rfl (congrArg Value.bool hg118) ?_
            refine WL.op (v := .int .u64 (x.v.n.toNat : Int)) rfl rfl rfl (Ex.load1 tyOne65 rfl rfl (Reads.of_block (hS.at 0 rfl) 12 [.int .u64 (x.v.n.toNat : Int)] rfl)) ?_
            refine WL.on rfl rfl rfl (congrArg Value.bool hg118) ?_
            refine WL.op (v := .bool (decide ((x.v.n.toNat : Int) ≤ 4294967295))) rfl rfl rfl (Ex.le rfl rfl rfl) ?_
            refine WL.op (v := .bool (decide ((x.v.n.toNat : Int) ≤ 4294967295))) rfl rfl rfl (Ex.pickT rfl (congrArg Value.bool hg118) rfl) ?_
            refine WL.op (v := .bool (decide ((x.v.n.toNat : Int) ≤ 4294967295))) rfl rfl rfl (Ex.assign rfl rfl) ?_
            refine WL.nil ?_
            refine then_normal ?_
            refine WP.ret ?_
            refine inBlock_ret (then_ret (?_))
            refine rt1 (v := .bool (decide ((x.v.n.toNat : Int) ≤ 4294967295))) rfl rfl ?_
            exact ⟨retb (by grind [At.right, Ky.right_sort4, Vl.tag, Vl.half, Vl.note, Vl.bare, note_eq, UInt64.toNat_mod, UInt64.toNat_div]), hS.bw⟩
          ·
            have hg118' : ¬ (1 ≤ (x.v.n.toNat : Int)) := by simpa using hg118
            refine WL.off (b' := false) rfl rfl rfl rfl rfl rfl (congrArg Value.bool hg118) rfl ?_
            refine WL.off (b' := false) rfl rfl rfl rfl rfl rfl (congrArg Value.bool hg118) rfl ?_
            refine WL.off (b' := false) rfl rfl rfl rfl rfl rfl (congrArg Value.bool hg118) rfl ?_
            refine WL.off (b' := false) rfl rfl rfl rfl rfl rfl (congrArg Value.bool hg118) rfl ?_
            refine WL.op (v := .bool false) rfl rfl rfl (Ex.pickF rfl (congrArg Value.bool hg118) rfl) ?_
            refine WL.op (v := .bool false) rfl rfl rfl (Ex.assign rfl rfl) ?_
            refine WL.nil ?_
            refine then_normal ?_
            refine WP.ret ?_
            refine inBlock_ret (then_ret (?_))
            refine rt1 (v := .bool false) rfl rfl ?_
            exact ⟨retb (by grind [At.right, Ky.right_sort4, Vl.tag, Vl.half, Vl.note, Vl.bare, note_eq, UInt64.toNat_mod, UInt64.toNat_div]), hS.bw⟩
        ·
          have hg117' : ¬ (x.v.text = Nm.zero) := by simpa using hg117
          refine WL.off (b' := false) rfl rfl rfl rfl rfl rfl (congrArg Value.bool hg117) rfl ?_
          refine WL.off (b' := false) rfl rfl rfl rfl rfl rfl (congrArg Value.bool hg117) rfl ?_
          refine WL.off (b' := false) rfl rfl rfl rfl rfl rfl (congrArg Value.bool hg117) rfl ?_
          refine WL.off (b' := false) rfl rfl rfl rfl rfl rfl (congrArg Value.bool hg117) rfl ?_
          refine WL.op (v := .bool false) rfl rfl rfl (Ex.pickF rfl (congrArg Value.bool hg117) rfl) ?_
          refine WL.op (v := .bool false) rfl rfl rfl (Ex.move rfl rfl) ?_
          refine WL.off (b' := false) rfl rfl rfl rfl rfl rfl rfl rfl ?_
          refine WL.off (b' := false) rfl rfl rfl rfl rfl rfl rfl rfl ?_
          refine WL.off (b' := false) rfl rfl rfl rfl rfl rfl rfl rfl ?_
          refine WL.off (b' := false) rfl rfl rfl rfl rfl rfl rfl rfl ?_
          refine WL.op (v := .bool false) rfl rfl rfl (Ex.pickF rfl rfl rfl) ?_
          refine WL.op (v := .bool false) rfl rfl rfl (Ex.assign rfl rfl) ?_
          refine WL.nil ?_
          refine then_normal ?_
          refine WP.ret ?_
          refine inBlock_ret (then_ret (?_))
          refine rt1 (v := .bool false) rfl rfl ?_
          exact ⟨retb (by grind [At.right, Ky.right_sort4, Vl.tag, Vl.half, Vl.note, Vl.bare, note_eq, UInt64.toNat_mod, UInt64.toNat_div]), hS.bw⟩
      ·
        have hc116' : ¬ ((x.k.sort.toNat : Int) = 2) := by simpa using hc116
        refine WP.region ?_
        refine WL.op (v := .bool (decide ((x.k.sort.toNat : Int) = 3))) rfl rfl rfl (Ex.eq rfl rfl rfl) ?_
        refine WL.op (v := .bool (decide ((x.k.sort.toNat : Int) = 3))) rfl rfl rfl (Ex.assign rfl rfl) ?_
        refine WL.nil ?_
        refine then_normal ?_
        refine WP.cond (b := decide ((x.k.sort.toNat : Int) = 3)) rfl (fun hc119 => ?_) (fun hc119 => ?_)
        ·
          have hc119' : (x.k.sort.toNat : Int) = 3 := by simpa using hc119
          refine WP.seq ?_
          refine WP.region ?_
          refine WL.op (v := .bool (decide (x.v.text = Nm.zero))) rfl rfl rfl (Ex.move rfl rfl) ?_
          refine WL.op (v := .bool (decide (x.v.text = Nm.zero))) rfl rfl rfl (Ex.move rfl rfl) ?_
          rcases Bool.eq_false_or_eq_true (decide (x.v.text = Nm.zero)) with hg120 | hg120
          ·
            have hg120' : x.v.text = Nm.zero := by simpa using hg120
            refine WL.on rfl rfl rfl (congrArg Value.bool hg120) ?_
            refine WL.op (v := .pointer (some ⟨b107, 12, none⟩)) rfl rfl rfl (Ex.fieldAddr' fieldAt71_1 rfl rfl) ?_
            refine WL.on rfl rfl rfl (congrArg Value.bool hg120) ?_
            refine WL.op (v := .pointer (some ⟨b107, 12, none⟩)) rfl rfl rfl (Ex.fieldAddr' fieldAt67_0 rfl rfl) ?_
            refine WL.on rfl rfl rfl (congrArg Value.bool hg120) ?_
            refine WL.op (v := .int .u64 (x.v.n.toNat : Int)) rfl rfl rfl (Ex.load1 tyOne65 rfl rfl (Reads.of_block (hS.at 0 rfl) 12 [.int .u64 (x.v.n.toNat : Int)] rfl)) ?_
            refine WL.on rfl rfl rfl (congrArg Value.bool hg120) ?_
            refine WL.op (v := .bool (decide (1 ≤ (x.v.n.toNat : Int)))) rfl rfl rfl (Ex.ge rfl rfl rfl) ?_
            refine WL.op (v := .bool (decide (1 ≤ (x.v.n.toNat : Int)))) rfl rfl rfl (Ex.pickT rfl (congrArg Value.bool hg120) rfl) ?_
            refine WL.op (v := .bool (decide (1 ≤ (x.v.n.toNat : Int)))) rfl rfl rfl (Ex.move rfl rfl) ?_
            rcases Bool.eq_false_or_eq_true (decide (1 ≤ (x.v.n.toNat : Int))) with hg121 | hg121
            ·
              have hg121' : 1 ≤ (x.v.n.toNat : Int) := by simpa using hg121
              refine WL.on rfl rfl rfl (congrArg Value.bool hg121) ?_
              refine WL.op (v := .pointer (some ⟨b107, 12, none⟩)) rfl rfl rfl (Ex.fieldAddr' fieldAt71_1 rfl rfl) ?_
              refine WL.on rfl rfl rfl (congrArg Value.bool hg121) ?_
              refine WL.op (v := .pointer (some ⟨b107, 12, none⟩)) rfl rfl rfl (Ex.fieldAddr' fieldAt67_0 rfl rfl) ?_
              refine WL.on rfl rfl rfl (congrArg Value.bool hg121) ?_
              refine WL.op (v := .int .u64 (x.v.n.toNat : Int)) rfl rfl rfl (Ex.load1 tyOne65 rfl rfl (Reads.of_block (hS.at 0 rfl) 12 [.int .u64 (x.v.n.toNat : Int)] rfl)) ?_
              refine WL.on rfl rfl rfl (congrArg Value.bool hg121) ?_
              refine WL.op (v := .bool (decide ((x.v.n.toNat : Int) ≤ 4294967295))) rfl rfl rfl (Ex.le rfl rfl rfl) ?_
              refine WL.op (v := .bool (decide ((x.v.n.toNat : Int) ≤ 4294967295))) rfl rfl rfl (Ex.pickT rfl (congrArg Value.bool hg121) rfl) ?_
              refine WL.op (v := .bool (decide ((x.v.n.toNat : Int) ≤ 4294967295))) rfl rfl rfl (Ex.assign rfl rfl) ?_
              refine WL.nil ?_
              refine then_normal ?_
              refine WP.ret ?_
              refine inBlock_ret (then_ret (?_))
              refine rt1 (v := .bool (decide ((x.v.n.toNat : Int) ≤ 4294967295))) rfl rfl ?_
              exact ⟨retb (by grind [At.right, Ky.right_sort4, Vl.tag, Vl.half, Vl.note, Vl.bare, note_eq, UInt64.toNat_mod, UInt64.toNat_div]), hS.bw⟩
            ·
              have hg121' : ¬ (1 ≤ (x.v.n.toNat : Int)) := by simpa using hg121
              refine WL.off (b' := false) rfl rfl rfl rfl rfl rfl (congrArg Value.bool hg121) rfl ?_
              refine WL.off (b' := false) rfl rfl rfl rfl rfl rfl (congrArg Value.bool hg121) rfl ?_
              refine WL.off (b' := false) rfl rfl rfl rfl rfl rfl (congrArg Value.bool hg121) rfl ?_
              refine WL.off (b' := false) rfl rfl rfl rfl rfl rfl (congrArg Value.bool hg121) rfl ?_
              refine WL.op (v := .bool false) rfl rfl rfl (Ex.pickF rfl (congrArg Value.bool hg121) rfl) ?_
              refine WL.op (v := .bool false) rfl rfl rfl (Ex.assign rfl rfl) ?_
              refine WL.nil ?_
              refine then_normal ?_
              refine WP.ret ?_
              refine inBlock_ret (then_ret (?_))
              refine rt1 (v := .bool false) rfl rfl ?_
              exact ⟨retb (by grind [At.right, Ky.right_sort4, Vl.tag, Vl.half, Vl.note, Vl.bare, note_eq, UInt64.toNat_mod, UInt64.toNat_div]), hS.bw⟩
          ·
            have hg120' : ¬ (x.v.text = Nm.zero) := by simpa using hg120
            refine WL.off (b' := false) rfl rfl rfl rfl rfl rfl (congrArg Value.bool hg120) rfl ?_
            refine WL.off (b' := false) rfl rfl rfl rfl rfl rfl (congrArg Value.bool hg120) rfl ?_
            refine WL.off (b' := false) rfl rfl rfl rfl rfl rfl (congrArg Value.bool hg120) rfl ?_
            refine WL.off (b' := false) rfl rfl rfl rfl rfl rfl (congrArg Value.bool hg120) rfl ?_
            refine WL.op (v := .bool false) rfl rfl rfl (Ex.pickF rfl (congrArg Value.bool hg120) rfl) ?_
            refine WL.op (v := .bool false) rfl rfl rfl (Ex.move rfl rfl) ?_
            refine WL.off (b' := false) rfl rfl rfl rfl rfl rfl rfl rfl ?_
            refine WL.off (b' := false) rfl rfl rfl rfl rfl rfl rfl rfl ?_
            refine WL.off (b' := false) rfl rfl rfl rfl rfl rfl rfl rfl ?_
            refine WL.off (b' := false) rfl rfl rfl rfl rfl rfl rfl rfl ?_
            refine WL.op (v := .bool false) rfl rfl rfl (Ex.pickF rfl rfl rfl) ?_
            refine WL.op (v := .bool false) rfl rfl rfl (Ex.assign rfl rfl) ?_
            refine WL.nil ?_
            refine then_normal ?_
            refine WP.ret ?_
            refine inBlock_ret (then_ret (?_))
            refine rt1 (v := .bool false) rfl rfl ?_
            exact ⟨retb (by grind [At.right, Ky.right_sort4, Vl.tag, Vl.half, Vl.note, Vl.bare, note_eq, UInt64.toNat_mod, UInt64.toNat_div]), hS.bw⟩
        ·
          have hc119' : ¬ ((x.k.sort.toNat : Int) = 3) := by simpa using hc119
          refine WP.skip ?_
          refine inBlock_normal ?_
          refine then_normal ?_
          refine WP.seq ?_
          refine WP.region ?_
          refine WL.op (v := .pointer (some ⟨b107, 12, none⟩)) rfl rfl rfl (Ex.fieldAddr' fieldAt71_1 rfl rfl) ?_
          refine WL.op (v := .pointer (some ⟨b107, 12, none⟩)) rfl rfl rfl (Ex.fieldAddr' fieldAt67_0 rfl rfl) ?_
          refine WL.op (v := .int .u64 (x.v.n.toNat : Int)) rfl rfl rfl (Ex.load1 tyOne65 rfl rfl (Reads.of_block (hS.at 0 rfl) 12 [.int .u64 (x.v.n.toNat : Int)] rfl)) ?_
          refine WL.op (v := .int .u64 ((x.v.n % (256 : UInt64)).toNat : Int)) rfl rfl rfl (Ex.rem64 (p := x.v.n) (q := (256 : UInt64)) (by decide) rfl rfl rfl) ?_
          refine WL.op (v := .bool (decide (((x.v.n % (256 : UInt64)).toNat : Int) < 16))) rfl rfl rfl (Ex.lt rfl rfl rfl) ?_
          refine WL.op (v := .bool (decide (((x.v.n % (256 : UInt64)).toNat : Int) < 16))) rfl rfl rfl (Ex.move rfl rfl) ?_
          rcases Bool.eq_false_or_eq_true (decide (((x.v.n % (256 : UInt64)).toNat : Int) < 16)) with hg122 | hg122
          ·
            have hg122' : ((x.v.n % (256 : UInt64)).toNat : Int) < 16 := by simpa using hg122
            refine WL.on rfl rfl rfl (congrArg Value.bool hg122) ?_
            refine WL.op (v := .pointer (some ⟨b107, 12, none⟩)) rfl rfl rfl (Ex.fieldAddr' fieldAt71_1 rfl rfl) ?_
            refine WL.on rfl rfl rfl (congrArg Value.bool hg122) ?_
            refine WL.op (v := .pointer (some ⟨b107, 12, none⟩)) rfl rfl rfl (Ex.fieldAddr' fieldAt67_0 rfl rfl) ?_
            refine WL.on rfl rfl rfl (congrArg Value.bool hg122) ?_
            refine WL.op (v := .int .u64 (x.v.n.toNat : Int)) rfl rfl rfl (Ex.load1 tyOne65 rfl rfl (Reads.of_block (hS.at 0 rfl) 12 [.int .u64 (x.v.n.toNat : Int)] rfl)) ?_
            refine WL.on rfl rfl rfl (congrArg Value.bool hg122) ?_
            refine WL.op (v := .int .u64 ((x.v.n / (256 : UInt64)).toNat : Int)) rfl rfl rfl (Ex.quo64 (p := x.v.n) (q := (256 : UInt64)) (by decide) rfl rfl rfl) ?_
            refine WL.on rfl rfl rfl (congrArg Value.bool hg122) ?_
            refine WL.op (v := .bool (decide (1 ≤ ((x.v.n / (256 : UInt64)).toNat : Int)))) rfl rfl rfl (Ex.ge rfl rfl rfl) ?_
            refine WL.op (v := .bool (decide (1 ≤ ((x.v.n / (256 : UInt64)).toNat : Int)))) rfl rfl rfl (Ex.pickT rfl (congrArg Value.bool hg122) rfl) ?_
            refine WL.op (v := .bool (decide (1 ≤ ((x.v.n / (256 : UInt64)).toNat : Int)))) rfl rfl rfl (Ex.move rfl rfl) ?_
            rcases Bool.eq_false_or_eq_true (decide (1 ≤ ((x.v.n / (256 : UInt64)).toNat : Int))) with hg123 | hg123
            ·
              have hg123' : 1 ≤ ((x.v.n / (256 : UInt64)).toNat : Int) := by simpa using hg123
              refine WL.on rfl rfl rfl (congrArg Value.bool hg123) ?_
              refine WL.op (v := .pointer (some ⟨b107, 12, none⟩)) rfl rfl rfl (Ex.fieldAddr' fieldAt71_1 rfl rfl) ?_
              refine WL.on rfl rfl rfl (congrArg Value.bool hg123) ?_
              refine WL.op (v := .pointer (some ⟨b107, 12, none⟩)) rfl rfl rfl (Ex.fieldAddr' fieldAt67_0 rfl rfl) ?_
              refine WL.on rfl rfl rfl (congrArg Value.bool hg123) ?_
              refine WL.op (v := .int .u64 (x.v.n.toNat : Int)) rfl rfl rfl (Ex.load1 tyOne65 rfl rfl (Reads.of_block (hS.at 0 rfl) 12 [.int .u64 (x.v.n.toNat : Int)] rfl)) ?_
              refine WL.on rfl rfl rfl (congrArg Value.bool hg123) ?_
              refine WL.op (v := .int .u64 ((x.v.n / (256 : UInt64)).toNat : Int)) rfl rfl rfl (Ex.quo64 (p := x.v.n) (q := (256 : UInt64)) (by decide) rfl rfl rfl) ?_
              refine WL.on rfl rfl rfl (congrArg Value.bool hg123) ?_
              refine WL.op (v := .bool (decide (((x.v.n / (256 : UInt64)).toNat : Int) ≤ 4294967295))) rfl rfl rfl (Ex.le rfl rfl rfl) ?_
              refine WL.op (v := .bool (decide (((x.v.n / (256 : UInt64)).toNat : Int) ≤ 4294967295))) rfl rfl rfl (Ex.pickT rfl (congrArg Value.bool hg123) rfl) ?_
              refine WL.op (v := .bool (decide (((x.v.n / (256 : UInt64)).toNat : Int) ≤ 4294967295))) rfl rfl rfl (Ex.move rfl rfl) ?_
              rcases Bool.eq_false_or_eq_true (decide (((x.v.n / (256 : UInt64)).toNat : Int) ≤ 4294967295)) with hg124 | hg124
              ·
                have hg124' : ((x.v.n / (256 : UInt64)).toNat : Int) ≤ 4294967295 := by simpa using hg124
                refine WL.on rfl rfl rfl (congrArg Value.bool hg124) ?_
                refine WL.op (v := .bool (decide (x.v.text = Nm.zero))) rfl rfl rfl (Ex.move rfl rfl) ?_
                refine WL.on rfl rfl rfl (congrArg Value.bool hg124) ?_
                refine WL.op (v := .bool (decide (x.v.text = Nm.zero))) rfl rfl rfl (Ex.move rfl rfl) ?_
                rcases Bool.eq_false_or_eq_true (decide (x.v.text = Nm.zero)) with hg125 | hg125
                ·
                  have hg125' : x.v.text = Nm.zero := by simpa using hg125
                  refine WL.off (b' := true) rfl rfl rfl rfl rfl rfl (congrArg Value.bool hg125) rfl ?_
                  refine WL.off (b' := true) rfl rfl rfl rfl rfl rfl (congrArg Value.bool hg125) rfl ?_
                  refine WL.off (b' := true) rfl rfl rfl rfl rfl rfl (congrArg Value.bool hg125) rfl ?_
                  refine WL.off (b' := true) rfl rfl rfl rfl rfl rfl (congrArg Value.bool hg125) rfl ?_
                  refine WL.on rfl rfl rfl (congrArg Value.bool hg124) ?_
                  refine WL.op (v := .bool true) rfl rfl rfl (Ex.pickT rfl (congrArg Value.bool hg125) rfl) ?_
                  refine WL.op (v := .bool true) rfl rfl rfl (Ex.pickT rfl (congrArg Value.bool hg124) rfl) ?_
                  refine WL.op (v := .bool true) rfl rfl rfl (Ex.assign rfl rfl) ?_
                  refine WL.nil ?_
                  refine then_normal ?_
                  refine WP.ret ?_
                  refine ?_
                  refine rt1 (v := .bool true) rfl rfl ?_
                  exact ⟨retb (by grind [At.right, Ky.right_sort4, Vl.tag, Vl.half, Vl.note, Vl.bare, note_eq, UInt64.toNat_mod, UInt64.toNat_div]), hS.bw⟩
                ·
                  have hg125' : ¬ (x.v.text = Nm.zero) := by simpa using hg125
                  refine WL.on rfl rfl rfl (congrArg Value.bool hg125) ?_
                  refine WL.op (v := .pointer (some ⟨b107, 12, none⟩)) rfl rfl rfl (Ex.fieldAddr' fieldAt71_1 rfl rfl) ?_
                  refine WL.on rfl rfl rfl (congrArg Value.bool hg125) ?_
                  refine WL.op (v := .pointer (some ⟨b107, 13, none⟩)) rfl rfl rfl (Ex.fieldAddr' fieldAt67_1 rfl rfl) ?_
                  refine WL.on rfl rfl rfl (congrArg Value.bool hg125) ?_
                  refine WL.op (v := .agg x.v.text.enc) rfl rfl rfl (Ex.loadA tyAgg31 rfl rfl (Reads.of_block (hS.at 0 rfl) 13 x.v.text.enc.toList rfl) rfl) ?_
                  refine WL.on rfl rfl rfl (congrArg Value.bool hg125) ?_
                  refine WL.call rfl rfl rfl (enterS eg48 (args := [.agg x.v.text.enc]) rfl rfl rfl rfl) (c_rright x.v.text _) ?_
                  rintro e W126 ⟨rfl, hB⟩
                  replace hS := hS.ext hB
                  refine ⟨_, rfl, ?_⟩
                  refine WL.on rfl rfl rfl (congrArg Value.bool hg124) ?_
                  refine WL.op (v := .bool x.v.text.right) rfl rfl rfl (Ex.pickF rfl (congrArg Value.bool hg125) rfl) ?_
                  refine WL.op (v := .bool x.v.text.right) rfl rfl rfl (Ex.pickT rfl (congrArg Value.bool hg124) rfl) ?_
                  refine WL.op (v := .bool x.v.text.right) rfl rfl rfl (Ex.assign rfl rfl) ?_
                  refine WL.nil ?_
                  refine then_normal ?_
                  refine WP.ret ?_
                  refine ?_
                  refine rt1 (v := .bool x.v.text.right) rfl rfl ?_
                  exact ⟨retb (by grind [At.right, Ky.right_sort4, Vl.tag, Vl.half, Vl.note, Vl.bare, note_eq, UInt64.toNat_mod, UInt64.toNat_div]), hS.bw⟩
              ·
                have hg124' : ¬ (((x.v.n / (256 : UInt64)).toNat : Int) ≤ 4294967295) := by simpa using hg124
                refine WL.off (b' := false) rfl rfl rfl rfl rfl rfl (congrArg Value.bool hg124) rfl ?_
                refine WL.off (b' := false) rfl rfl rfl rfl rfl rfl (congrArg Value.bool hg124) rfl ?_
                refine WL.offU rfl rfl rfl rfl rfl rfl ?_
                refine WL.offU rfl rfl rfl rfl rfl rfl ?_
                refine WL.offU rfl rfl rfl rfl rfl rfl ?_
                refine WL.offU rfl rfl rfl rfl rfl rfl ?_
                refine WL.off (b' := false) rfl rfl rfl rfl rfl rfl (congrArg Value.bool hg124) rfl ?_
                refine WL.op (v := .bool false) rfl rfl rfl (Ex.pickF rfl (congrArg Value.bool hg124) rfl) ?_
                refine WL.op (v := .bool false) rfl rfl rfl (Ex.assign rfl rfl) ?_
                refine WL.nil ?_
                refine then_normal ?_
                refine WP.ret ?_
                refine ?_
                refine rt1 (v := .bool false) rfl rfl ?_
                exact ⟨retb (by grind [At.right, Ky.right_sort4, Vl.tag, Vl.half, Vl.note, Vl.bare, note_eq, UInt64.toNat_mod, UInt64.toNat_div]), hS.bw⟩
            ·
              have hg123' : ¬ (1 ≤ ((x.v.n / (256 : UInt64)).toNat : Int)) := by simpa using hg123
              refine WL.off (b' := false) rfl rfl rfl rfl rfl rfl (congrArg Value.bool hg123) rfl ?_
              refine WL.off (b' := false) rfl rfl rfl rfl rfl rfl (congrArg Value.bool hg123) rfl ?_
              refine WL.off (b' := false) rfl rfl rfl rfl rfl rfl (congrArg Value.bool hg123) rfl ?_
              refine WL.off (b' := false) rfl rfl rfl rfl rfl rfl (congrArg Value.bool hg123) rfl ?_
              refine WL.off (b' := false) rfl rfl rfl rfl rfl rfl (congrArg Value.bool hg123) rfl ?_
              refine WL.op (v := .bool false) rfl rfl rfl (Ex.pickF rfl (congrArg Value.bool hg123) rfl) ?_
              refine WL.op (v := .bool false) rfl rfl rfl (Ex.move rfl rfl) ?_
              refine WL.off (b' := false) rfl rfl rfl rfl rfl rfl rfl rfl ?_
              refine WL.off (b' := false) rfl rfl rfl rfl rfl rfl rfl rfl ?_
              refine WL.offU rfl rfl rfl rfl rfl rfl ?_
              refine WL.offU rfl rfl rfl rfl rfl rfl ?_
              refine WL.offU rfl rfl rfl rfl rfl rfl ?_
              refine WL.offU rfl rfl rfl rfl rfl rfl ?_
              refine WL.off (b' := false) rfl rfl rfl rfl rfl rfl rfl rfl ?_
              refine WL.op (v := .bool false) rfl rfl rfl (Ex.pickF rfl rfl rfl) ?_
              refine WL.op (v := .bool false) rfl rfl rfl (Ex.assign rfl rfl) ?_
              refine WL.nil ?_
              refine then_normal ?_
              refine WP.ret ?_
              refine ?_
              refine rt1 (v := .bool false) rfl rfl ?_
              exact ⟨retb (by grind [At.right, Ky.right_sort4, Vl.tag, Vl.half, Vl.note, Vl.bare, note_eq, UInt64.toNat_mod, UInt64.toNat_div]), hS.bw⟩
          ·
            have hg122' : ¬ (((x.v.n % (256 : UInt64)).toNat : Int) < 16) := by simpa using hg122
            refine WL.off (b' := false) rfl rfl rfl rfl rfl rfl (congrArg Value.bool hg122) rfl ?_
            refine WL.off (b' := false) rfl rfl rfl rfl rfl rfl (congrArg Value.bool hg122) rfl ?_
            refine WL.off (b' := false) rfl rfl rfl rfl rfl rfl (congrArg Value.bool hg122) rfl ?_
            refine WL.off (b' := false) rfl rfl rfl rfl rfl rfl (congrArg Value.bool hg122) rfl ?_
            refine WL.off (b' := false) rfl rfl rfl rfl rfl rfl (congrArg Value.bool hg122) rfl ?_
            refine WL.op (v := .bool false) rfl rfl rfl (Ex.pickF rfl (congrArg Value.bool hg122) rfl) ?_
            refine WL.op (v := .bool false) rfl rfl rfl (Ex.move rfl rfl) ?_
            refine WL.off (b' := false) rfl rfl rfl rfl rfl rfl rfl rfl ?_
            refine WL.off (b' := false) rfl rfl rfl rfl rfl rfl rfl rfl ?_
            refine WL.off (b' := false) rfl rfl rfl rfl rfl rfl rfl rfl ?_
            refine WL.off (b' := false) rfl rfl rfl rfl rfl rfl rfl rfl ?_
            refine WL.off (b' := false) rfl rfl rfl rfl rfl rfl rfl rfl ?_
            refine WL.op (v := .bool false) rfl rfl rfl (Ex.pickF rfl rfl rfl) ?_
            refine WL.op (v := .bool false) rfl rfl rfl (Ex.move rfl rfl) ?_
            refine WL.off (b' := false) rfl rfl rfl rfl rfl rfl rfl rfl ?_
            refine WL.off (b' := false) rfl rfl rfl rfl rfl rfl rfl rfl ?_
            refine WL.offU rfl rfl rfl rfl rfl rfl ?_
            refine WL.offU rfl rfl rfl rfl rfl rfl ?_
            refine WL.offU rfl rfl rfl rfl rfl rfl ?_
            refine WL.offU rfl rfl rfl rfl rfl rfl ?_
            refine WL.off (b' := false) rfl rfl rfl rfl rfl rfl rfl rfl ?_
            refine WL.op (v := .bool false) rfl rfl rfl (Ex.pickF rfl rfl rfl) ?_
            refine WL.op (v := .bool false) rfl rfl rfl (Ex.assign rfl rfl) ?_
            refine WL.nil ?_
            refine then_normal ?_
            refine WP.ret ?_
            refine ?_
            refine rt1 (v := .bool false) rfl rfl ?_
            exact ⟨retb (by grind [At.right, Ky.right_sort4, Vl.tag, Vl.half, Vl.note, Vl.bare, note_eq, UInt64.toNat_mod, UInt64.toNat_div]), hS.bw⟩
end Go.Proofs.Ythidakffgcjjiaa
