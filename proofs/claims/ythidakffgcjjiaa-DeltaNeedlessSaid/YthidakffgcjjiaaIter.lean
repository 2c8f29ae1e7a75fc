/- lat.Each's iterator tells the atoms of a row's state, one by one. -/
import Derived.Test.YthidakffgcjjiaaLat
namespace Go.Proofs.Ythidakffgcjjiaa
open Go.RowKit Go.Sort

/-- What Each's iterator wants: the box of the row that it has captured. -/
def eachPre (bx : Nat) (v : Value) (l : List At) : List (Nat × Obj) → List Pin → Prop := fun co cp => (bx, .cells #[v] 22 (0, 0)) ∈ co ∧ pinSl v l ∈ cp
def kvVals (a : At) : List Value := [.agg a.k.enc, .agg a.v.enc]
set_option maxRecDepth 100000 in
set_option maxHeartbeats 1000000 in
theorem it_each (bx : Nat) (v : Value) (l : List At) (hl : l.length ≤ 1048576) : Iter 112 [.pointer (some ⟨bx, 0, none⟩)] kvVals (normAt l) (eachPre bx v l) := by
  intro L I Ix w w1 co cp ⟨hbx, hv⟩ hI hS hround
  replace hS := hS.again hv
  refine enter (n := 20) Try.func112 rfl rfl (Nat.le_of_ble_eq_true rfl) (l := [(0, .func (.yield L) #[] #[]), (1, .pointer (some ⟨bx, 0, none⟩))]) rfl ?_
  refine WP.seq ?_
  refine WP.region ?_
  refine WL.op (v := v) rfl rfl rfl (Ex.load1 tyOne22 rfl rfl (Reads.of_block (hS.hold _ hbx).1 0 [v] rfl)) ?_
  refine WL.call rfl rfl rfl (enterS eg25 (args := [v]) rfl rfl rfl rfl) (c_norm _ l _ (hS.mem (.head _)) (by first | omega | (simp; done) | (simp; omega))) ?_
  rintro e W115 ⟨v113, rfl, hB, hv', hn'⟩
  have hN114 : New w v113 := fun b hb => Nat.le_trans hS.bw.size (hn' b hb)
  replace hS := hS.newPin hB (pinSl v113 (normAt l)) hv' hn'
  refine ⟨_, rfl, ?_⟩
  have hq116 := normAt_length l
  have hl117 : (normAt l).length < 4611686018427387904 := (hS.mem (.head _) : Sl _ _ _).lt
  refine WL.op (v := .int .i64 ((normAt l).length : Int)) rfl rfl rfl (Ex.lenSl (l := normAt l) ⟨_, under22⟩ rfl rfl (hS.mem (.head _))) ?_
  refine WL.op (v := .int .i64 0) rfl rfl rfl (Ex.move rfl rfl) ?_
  refine WL.nil ?_
  refine then_normal ?_
  refine WP.block ?_
  refine WP.loop (fun (μ : Nat) a W => ∃ (k : Nat), ∃ (co2 : List (Nat × Obj)), ∃ (cp2 : List Pin), ∃ (l0 : Fr), a = fr 20 [] ([(0, .func (.yield L) #[] #[]), (6, v113), (7, .int .i64 ((normAt l).length : Int)), (8, .int .i64 (k : Int))] ++ l0) ∧ μ = (normAt l).length - k ∧ k ≤ (normAt l).length ∧ St w (co2) (pinSl v113 (normAt l) :: pinSl v l :: cp2) W ∧ (I k co2 cp2)) id _ ⟨0, co, cp, _, fr_keep ⟨rfl, rfl, rfl, rfl, trivial⟩, rfl, by omega, hS, hI⟩ ?_
  rintro μ a W118 ⟨k, co2, cp2, l0, rfl, rfl, hk, hS, hI2⟩
  refine WP.seq ?_
  refine WP.region ?_
  refine WL.op (v := .bool (decide ((k : Int) < ((normAt l).length : Int)))) rfl rfl rfl (Ex.lt rfl rfl rfl) ?_
  refine WL.nil ?_
  refine then_normal ?_
  refine WP.seq ?_
  refine WP.cond (b := decide ((k : Int) < ((normAt l).length : Int))) rfl (fun hc119 => ?_) (fun hc119 => ?_)
  ·
    have hc119' : (k : Int) < ((normAt l).length : Int) := by simpa using hc119
    refine WP.skip ?_
    refine then_normal ?_
    refine WP.seq ?_
    refine WP.block ?_
    refine WP.seq ?_
    refine WP.region ?_
    obtain ⟨b120, po121, x122, hx123, hi124, hS⟩ := hS.elem (α := At) (k := k) (.head _) under22 tySz71 (by omega)
    refine WL.op (v := .pointer (some ⟨b120, po121, none⟩)) rfl rfl rfl (Ex.indexC hi124 rfl rfl rfl) ?_
    refine WL.op (v := .agg x122.enc) rfl rfl rfl (Ex.loadA tyAgg71 rfl rfl (Reads.sub (cs := x122.enc.toList) (hS.get 0 rfl) 0 (ds := x122.enc.toList) rfl) rfl) ?_
    refine WL.alloc zv71 hS rfl rfl rfl rfl (fun b125 W126 hS => ?_)
    refine WL.store tySz71 hS 0 rfl rfl rfl rfl rfl rfl rfl rfl rfl (C' := x122.enc) rfl ((b125, .cells x122.enc 71) :: co2) rfl (fun W127 hS => ?_)
    refine WL.nil ?_
    refine then_normal ?_
    refine WP.seq ?_
    refine WP.region ?_
    refine WL.op (v := .func (.yield L) #[] #[]) rfl rfl rfl (Ex.move rfl rfl) ?_
    refine WL.op (v := .pointer (some ⟨b125, 0, none⟩)) rfl rfl rfl (Ex.fieldAddr' fieldAt71_0 rfl rfl) ?_
    refine WL.op (v := .agg x122.k.enc) rfl rfl rfl (Ex.loadA tyAgg61 rfl rfl (Reads.of_block (hS.at 0 rfl) 0 x122.k.enc.toList rfl) rfl) ?_
    refine WL.op (v := .pointer (some ⟨b125, 12, none⟩)) rfl rfl rfl (Ex.fieldAddr' fieldAt71_1 rfl rfl) ?_
    refine WL.op (v := .agg x122.v.enc) rfl rfl rfl (Ex.loadA tyAgg67 rfl rfl (Reads.of_block (hS.at 0 rfl) 12 x122.v.enc.toList rfl) rfl) ?_
    refine WL.yield (vs := [.agg x122.k.enc, .agg x122.v.enc]) rfl rfl rfl rfl rfl rfl rfl (hround k x122 [(b125, .cells x122.enc 71)] [pinReads b120 po121 (Enc.val x122).cells.toList, pinSl v113 (normAt l), pinSl v l] co2 cp2 W127 hx123 hI2 hS) ?_
    rintro bb W128 ⟨co3, cp3, hI3, hS⟩
    replace hS : St w ((b125, .cells x122.enc 71) :: co3) (pinReads b120 po121 (Enc.val x122).cells.toList :: pinSl v113 (normAt l) :: pinSl v l :: cp3) W128 := hS
    refine WL.op (v := .bool (!bb)) rfl rfl rfl (Ex.not rfl rfl) ?_
    refine WL.nil ?_
    refine then_normal ?_
    refine WP.cond (b := !bb) rfl (fun hc129 => ?_) (fun hc129 => ?_)
    ·
      have hc130 : bb = false := by simpa using hc129
      refine WP.ret ?_
      refine inBlock_ret (then_ret (then_ret (inBlock_ret (?_))))
      refine rt0 rfl ?_
      exact ⟨rfl, co3, cp3, .inr (by simpa [hc130] using hI3), hS.drop 1 3⟩
    ·
      have hc131 : bb = true := by simpa using hc129
      refine WP.skip ?_
      refine inBlock_normal ?_
      refine then_normal ?_
      refine WP.region ?_
      refine WL.op (v := .int .i64 ((k + 1 : Nat) : Int)) rfl rfl rfl (Ex.add rfl rfl rfl (wrap_succ (by omega))) ?_
      refine WL.op (v := .int .i64 ((k + 1 : Nat) : Int)) rfl rfl rfl (Ex.move rfl rfl) ?_
      refine WL.nil ?_
      refine then_normal ?_
      exact ⟨_, ⟨k + 1, co3, cp3, _, fr_keep ⟨rfl, rfl, rfl, rfl, trivial⟩, rfl, by omega, hS.drop 1 1, by simpa [hc131] using hI3⟩, by simp only [id]; omega⟩
  ·
    have hc119' : ¬ ((k : Int) < ((normAt l).length : Int)) := by simpa using hc119
    refine WP.exit ?_
    refine then_exit (then_exit (inBlock_same (?_)))
    refine rt0n rfl ?_
    obtain rfl : k = (normAt l).length := by omega
    exact ⟨rfl, co2, cp2, .inl hI2, hS.drop 0 2⟩
end Go.Proofs.Ythidakffgcjjiaa
