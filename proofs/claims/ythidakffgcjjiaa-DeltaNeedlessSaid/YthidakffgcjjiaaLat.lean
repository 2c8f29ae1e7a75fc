/- The walks of lat: All, Norm, Join, Each, facts, Meet, Leq, Same. -/
import Derived.Test.YthidakffgcjjiaaSmall
namespace Go.Proofs.Ythidakffgcjjiaa
open Go.RowKit Go.Sort

set_option maxRecDepth 100000 in
set_option maxHeartbeats 1000000 in
theorem c_all (v : Value) (vs : List Sv) (ls : List (List At)) (w : World) (hv : Sl w v vs) (hs : SS w vs ls) (hlen : vs.length = ls.length) (hl : ls.flatten.length ≤ 1048576) :
    Calls Try.prog 36 #[v] w fun e w' => ∃ v', e = .returned v' ∧ Bw w w' ∧ Sl w' v' (normAt ls.flatten) ∧ New w v' := by
  have hS := St.begin (w := w) (pins := pinSl v vs :: pinSS vs ls :: []) ⟨hv, hs, trivial⟩
  refine enter (n := 48) Try.func36 rfl rfl (Nat.le_of_ble_eq_true rfl) (l := [(0, v)]) rfl ?_
  refine WP.seq ?_
  refine WP.region ?_
  refine WL.op (v := .slice none 0 0) rfl rfl rfl (Ex.assign rfl rfl) ?_
  refine WL.nil ?_
  refine then_normal ?_
  refine WP.seq ?_
  refine WP.region ?_
  refine WL.makeMap hS rfl rfl rfl rfl rfl (fun bm59 W60 hS => ?_)
  refine WL.op (v := .map (some bm59)) rfl rfl rfl (Ex.assign rfl rfl) ?_
  refine WL.nil ?_
  refine then_normal ?_
  refine WP.seq ?_
  refine WP.seq ?_
  refine WP.region ?_
  refine WL.op (v := v) rfl rfl rfl (Ex.move rfl rfl) ?_
  have hl61 : vs.length < 4611686018427387904 := (hS.mem (.head _) : Sl _ _ _).lt
  refine WL.op (v := .int .i64 (vs.length : Int)) rfl rfl rfl (Ex.lenSl (l := vs) ⟨_, under42⟩ rfl rfl (hS.mem (.head _))) ?_
  refine WL.op (v := .int .i64 0) rfl rfl rfl (Ex.move rfl rfl) ?_
  refine WL.nil ?_
  refine then_normal ?_
  refine WP.block ?_
  refine WP.loop (fun (μ : Nat) a W => ∃ (k : Nat), ∃ (ob : Obj), ∃ (l0 : Fr), a = fr 48 [] ([(2, .slice none 0 0), (3, .map (some bm59)), (11, v), (12, .int .i64 (vs.length : Int)), (13, .int .i64 (k : Int))] ++ l0) ∧ μ = vs.length - k ∧ k ≤ vs.length ∧ St w ((bm59, ob) :: []) (pinSl v vs :: pinSS vs ls :: []) W ∧ (MapObj ob (known (ls.take k).flatten))) id _ ⟨0, _, _, fr_keep ⟨rfl, rfl, rfl, rfl, rfl, trivial⟩, rfl, by omega, hS, MapObj.new⟩ ?_
  rintro μ a W62 ⟨k, ob, l0, rfl, rfl, hk, hS, hm⟩
  refine WP.seq ?_
  refine WP.region ?_
  refine WL.op (v := .bool (decide ((k : Int) < (vs.length : Int)))) rfl rfl rfl (Ex.lt rfl rfl rfl) ?_
  refine WL.nil ?_
  refine then_normal ?_
  refine WP.seq ?_
  refine WP.cond (b := decide ((k : Int) < (vs.length : Int))) rfl (fun hc63 => ?_) (fun hc63 => ?_)
  ·
    have hc63' : (k : Int) < (vs.length : Int) := by simpa using hc63
    refine WP.skip ?_
    refine then_normal ?_
    refine WP.seq ?_
    refine WP.block ?_
    refine WP.seq ?_
    refine WP.region ?_
    obtain ⟨b64, po65, x66, hx67, hi68, hS⟩ := hS.elem (α := Sv) (k := k) (.head _) under42 tySz22 (by omega)
    refine WL.op (v := .pointer (some ⟨b64, po65, none⟩)) rfl rfl rfl (Ex.indexC hi68 rfl rfl rfl) ?_
    obtain ⟨li69, hli70⟩ : ∃ li, ls[k]? = some li := ⟨ls[k]'(by omega), by simp⟩
    replace hS := hS.inner (.tail _ (.tail _ (.head _))) hx67 hli70
    refine WL.op (v := x66.v) rfl rfl rfl (Ex.load1 tyOne22 rfl rfl (Reads.sub (cs := [x66.v]) (hS.get 1 rfl) 0 (ds := [x66.v]) rfl)) ?_
    refine WL.op (v := x66.v) rfl rfl rfl (Ex.assign rfl rfl) ?_
    refine WL.nil ?_
    refine then_normal ?_
    refine WP.seq ?_
    refine WP.region ?_
    refine WL.op (v := x66.v) rfl rfl rfl (Ex.move rfl rfl) ?_
    have hl71 : li69.length < 4611686018427387904 := (hS.mem (.head _) : Sl _ _ _).lt
    refine WL.op (v := .int .i64 (li69.length : Int)) rfl rfl rfl (Ex.lenSl (l := li69) ⟨_, under22⟩ rfl rfl (hS.mem (.head _))) ?_
    refine WL.op (v := .int .i64 0) rfl rfl rfl (Ex.move rfl rfl) ?_
    refine WL.nil ?_
    refine then_normal ?_
    refine WP.block ?_
    refine WP.loop (fun (μ : Nat) a W => ∃ (q : Nat), ∃ (ob2 : Obj), ∃ (l0 : Fr), a = fr 48 [] ([(2, .slice none 0 0), (3, .map (some bm59)), (5, x66.v), (11, v), (12, .int .i64 (vs.length : Int)), (13, .int .i64 (k : Int)), (14, .bool (decide ((k : Int) < (vs.length : Int)))), (15, .pointer (some ⟨b64, po65, none⟩)), (16, x66.v), (17, x66.v), (18, .int .i64 (li69.length : Int)), (19, .int .i64 (q : Int))] ++ l0) ∧ μ = li69.length - q ∧ q ≤ li69.length ∧ St w ((bm59, ob2) :: []) (pinSl x66.v li69 :: pinReads b64 po65 (Enc.val x66).cells.toList :: pinSl v vs :: pinSS vs ls :: []) W ∧ (MapObj ob2 (known ((ls.take k).flatten ++ li69.take q)))) id _ ⟨0, _, _, fr_keep ⟨rfl, rfl, rfl, rfl, rfl, rfl, rfl, rfl, rfl, rfl, rfl, rfl, trivial⟩, rfl, by omega, hS, by simpa using hm⟩ ?_
    rintro μ a W72 ⟨q, ob2, l0, rfl, rfl, hq, hS, hm2⟩
    refine WP.seq ?_
    refine WP.region ?_
    refine WL.op (v := .bool (decide ((q : Int) < (li69.length : Int)))) rfl rfl rfl (Ex.lt rfl rfl rfl) ?_
    refine WL.nil ?_
    refine then_normal ?_
    refine WP.seq ?_
    refine WP.cond (b := decide ((q : Int) < (li69.length : Int))) rfl (fun hc73 => ?_) (fun hc73 => ?_)
    ·
      have hc73' : (q : Int) < (li69.length : Int) := by simpa using hc73
      refine WP.skip ?_
      refine then_normal ?_
      refine WP.seq ?_
      refine WP.block ?_
      refine WP.seq ?_
      refine WP.region ?_
      obtain ⟨b74, po75, x76, hx77, hi78, hS⟩ := hS.elem (α := At) (k := q) (.head _) under22 tySz71 (by omega)
      refine WL.op (v := .pointer (some ⟨b74, po75, none⟩)) rfl rfl rfl (Ex.indexC hi78 rfl rfl rfl) ?_
      refine WL.op (v := .agg x76.enc) rfl rfl rfl (Ex.loadA tyAgg71 rfl rfl (Reads.sub (cs := x76.enc.toList) (hS.get 0 rfl) 0 (ds := x76.enc.toList) rfl) rfl) ?_
      refine WL.alloc zv71 hS rfl rfl rfl rfl (fun b79 W80 hS => ?_)
      refine WL.store tySz71 hS 0 rfl rfl rfl rfl rfl rfl rfl rfl rfl (C' := x76.enc) rfl ((b79, .cells x76.enc 71) :: (bm59, ob2) :: []) rfl (fun W81 hS => ?_)
      refine WL.nil ?_
      refine then_normal ?_
      refine WP.seq ?_
      refine WP.seq ?_
      refine WP.region ?_
      refine WL.op (v := .agg x76.enc) rfl rfl rfl (Ex.loadA tyAgg71 rfl rfl (Reads.of_block (hS.at 0 rfl) 0 x76.enc.toList rfl) rfl) ?_
      refine WL.call rfl rfl rfl (enterS eg79 (args := [.agg x76.enc]) rfl rfl rfl rfl) (c_atright x76 _) ?_
      rintro e W82 ⟨rfl, hB⟩
      replace hS := hS.ext hB
      refine ⟨_, rfl, ?_⟩
      refine WL.op (v := .bool (!x76.right)) rfl rfl rfl (Ex.not rfl rfl) ?_
      refine WL.nil ?_
      refine then_normal ?_
      refine WP.cond (b := !x76.right) rfl (fun hc83 => ?_) (fun hc83 => ?_)
      ·
        have hc84 : x76.right = false := by simpa using hc83
        refine WP.exit ?_
        refine then_exit (inBlock_same (?_))
        refine then_normal ?_
        refine WP.region ?_
        refine WL.op (v := .int .i64 ((q + 1 : Nat) : Int)) rfl rfl rfl (Ex.add rfl rfl rfl (wrap_succ (by omega))) ?_
        refine WL.op (v := .int .i64 ((q + 1 : Nat) : Int)) rfl rfl rfl (Ex.move rfl rfl) ?_
        refine WL.nil ?_
        refine then_normal ?_
        exact ⟨_, ⟨q + 1, ob2, _, fr_keep ⟨rfl, rfl, rfl, rfl, rfl, rfl, rfl, rfl, rfl, rfl, rfl, rfl, trivial⟩, rfl, by omega, hS.drop 1 1, by rw [known_at hx77, upd_wrong hc84]; exact hm2⟩, by simp only [id]; omega⟩
      ·
        have hc85 : x76.right = true := by simpa using hc83
        refine WP.skip ?_
        refine then_normal ?_
        refine WP.seq ?_
        refine WP.seq ?_
        refine WP.region ?_
        refine WL.op (v := .map (some bm59)) rfl rfl rfl (Ex.move rfl rfl) ?_
        refine WL.op (v := .pointer (some ⟨b79, 0, none⟩)) rfl rfl rfl (Ex.fieldAddr' fieldAt71_0 rfl rfl) ?_
        refine WL.op (v := .agg x76.k.enc) rfl rfl rfl (Ex.loadA tyAgg61 rfl rfl (Reads.of_block (hS.at 0 rfl) 0 x76.k.enc.toList rfl) rfl) ?_
        refine WL.op (v := .tuple #[.agg ((look (known ((ls.take k).flatten ++ li69.take q)) x76.k).getD Vl.zero).enc, .bool ((look (known ((ls.take k).flatten ++ li69.take q)) x76.k).isSome)]) rfl rfl rfl (Ex.lookupM (hS.at 1 rfl) hm2 rfl rfl rfl) ?_
        refine WL.op (v := .tuple #[.agg ((look (known ((ls.take k).flatten ++ li69.take q)) x76.k).getD Vl.zero).enc, .bool ((look (known ((ls.take k).flatten ++ li69.take q)) x76.k).isSome)]) rfl rfl rfl (Ex.move rfl rfl) ?_
        refine WL.op (v := .agg ((look (known ((ls.take k).flatten ++ li69.take q)) x76.k).getD Vl.zero).enc) rfl rfl rfl (Ex.extract rfl rfl rfl) ?_
        refine WL.op (v := .bool ((look (known ((ls.take k).flatten ++ li69.take q)) x76.k).isSome)) rfl rfl rfl (Ex.extract rfl rfl rfl) ?_
        refine WL.alloc zv67 hS rfl rfl rfl rfl (fun b86 W87 hS => ?_)
        refine WL.store tySz67 hS 0 rfl rfl rfl rfl rfl rfl rfl rfl rfl (C' := ((look (known ((ls.take k).flatten ++ li69.take q)) x76.k).getD Vl.zero).enc) rfl ((b86, .cells ((look (known ((ls.take k).flatten ++ li69.take q)) x76.k).getD Vl.zero).enc 67) :: (b79, .cells x76.enc 71) :: (bm59, ob2) :: []) rfl (fun W88 hS => ?_)
        refine WL.op (v := .bool ((look (known ((ls.take k).flatten ++ li69.take q)) x76.k).isSome)) rfl rfl rfl (Ex.assign rfl rfl) ?_
        refine WL.nil ?_
        refine then_normal ?_
        refine WP.seq ?_
        refine WP.region ?_
        refine WL.op (v := .bool ((look (known ((ls.take k).flatten ++ li69.take q)) x76.k).isSome)) rfl rfl rfl (Ex.move rfl rfl) ?_
        refine WL.nil ?_
        refine then_normal ?_
        refine WP.cond (b := (look (known ((ls.take k).flatten ++ li69.take q)) x76.k).isSome) rfl (fun hc89 => ?_) (fun hc89 => ?_)
        ·
          refine WP.region ?_
          refine WL.op (v := .agg ((look (known ((ls.take k).flatten ++ li69.take q)) x76.k).getD Vl.zero).enc) rfl rfl rfl (Ex.loadA tyAgg67 rfl rfl (Reads.of_block (hS.at 0 rfl) 0 ((look (known ((ls.take k).flatten ++ li69.take q)) x76.k).getD Vl.zero).enc.toList rfl) rfl) ?_
          refine WL.op (v := .pointer (some ⟨b79, 12, none⟩)) rfl rfl rfl (Ex.fieldAddr' fieldAt71_1 rfl rfl) ?_
          refine WL.op (v := .agg x76.v.enc) rfl rfl rfl (Ex.loadA tyAgg67 rfl rfl (Reads.of_block (hS.at 1 rfl) 12 x76.v.enc.toList rfl) rfl) ?_
          refine WL.call rfl rfl rfl (enterS eg90 (args := [.agg ((look (known ((ls.take k).flatten ++ li69.take q)) x76.k).getD Vl.zero).enc, .agg x76.v.enc]) rfl rfl rfl rfl) (c_more ((look (known ((ls.take k).flatten ++ li69.take q)) x76.k).getD Vl.zero) x76.v _) ?_
          rintro e W90 ⟨rfl, hB⟩
          replace hS := hS.ext hB
          refine ⟨_, rfl, ?_⟩
          refine WL.op (v := .pointer (some ⟨b79, 12, none⟩)) rfl rfl rfl (Ex.fieldAddr' fieldAt71_1 rfl rfl) ?_
          refine WL.store tySz67 hS 1 rfl rfl rfl rfl rfl rfl rfl rfl rfl (C' := (At.mk x76.k (((look (known ((ls.take k).flatten ++ li69.take q)) x76.k).getD Vl.zero).more x76.v)).enc) rfl ((b86, .cells ((look (known ((ls.take k).flatten ++ li69.take q)) x76.k).getD Vl.zero).enc 67) :: (b79, .cells (At.mk x76.k (((look (known ((ls.take k).flatten ++ li69.take q)) x76.k).getD Vl.zero).more x76.v)).enc 71) :: (bm59, ob2) :: []) rfl (fun W91 hS => ?_)
          refine WL.nil ?_
          refine then_normal ?_
          refine WP.region ?_
          refine WL.op (v := .map (some bm59)) rfl rfl rfl (Ex.move rfl rfl) ?_
          refine WL.op (v := .pointer (some ⟨b79, 0, none⟩)) rfl rfl rfl (Ex.fieldAddr' fieldAt71_0 rfl rfl) ?_
          refine WL.op (v := .agg ((At.mk x76.k (((look (known ((ls.take k).flatten ++ li69.take q)) x76.k).getD Vl.zero).more x76.v)).k).enc) rfl rfl rfl (Ex.loadA tyAgg61 rfl rfl (Reads.of_block (hS.at 1 rfl) 0 ((At.mk x76.k (((look (known ((ls.take k).flatten ++ li69.take q)) x76.k).getD Vl.zero).more x76.v)).k).enc.toList rfl) rfl) ?_
          refine WL.op (v := .pointer (some ⟨b79, 12, none⟩)) rfl rfl rfl (Ex.fieldAddr' fieldAt71_1 rfl rfl) ?_
          refine WL.op (v := .agg ((At.mk x76.k (((look (known ((ls.take k).flatten ++ li69.take q)) x76.k).getD Vl.zero).more x76.v)).v).enc) rfl rfl rfl (Ex.loadA tyAgg67 rfl rfl (Reads.of_block (hS.at 1 rfl) 12 ((At.mk x76.k (((look (known ((ls.take k).flatten ++ li69.take q)) x76.k).getD Vl.zero).more x76.v)).v).enc.toList rfl) rfl) ?_
          refine WL.update (k := (At.mk x76.k (((look (known ((ls.take k).flatten ++ li69.take q)) x76.k).getD Vl.zero).more x76.v)).k) (v := (At.mk x76.k (((look (known ((ls.take k).flatten ++ li69.take q)) x76.k).getD Vl.zero).more x76.v)).v) hS 2 rfl hm2 rfl rfl rfl rfl rfl rfl (fun ob92 W93 hm94 hS => ?_)
          refine WL.nil ?_
          refine inBlock_normal ?_
          refine then_normal ?_
          refine WP.region ?_
          refine WL.op (v := .int .i64 ((q + 1 : Nat) : Int)) rfl rfl rfl (Ex.add rfl rfl rfl (wrap_succ (by omega))) ?_
          refine WL.op (v := .int .i64 ((q + 1 : Nat) : Int)) rfl rfl rfl (Ex.move rfl rfl) ?_
          refine WL.nil ?_
          refine then_normal ?_
          exact ⟨_, ⟨q + 1, ob92, _, fr_keep ⟨rfl, rfl, rfl, rfl, rfl, rfl, rfl, rfl, rfl, rfl, rfl, rfl, trivial⟩, rfl, by omega, hS.drop 2 1, by rw [known_at hx77, upd_some hc85 hc89]; exact hm94⟩, by simp only [id]; omega⟩
        ·
          refine WP.skip ?_
          refine then_normal ?_
          refine WP.region ?_
          refine WL.op (v := .map (some bm59)) rfl rfl rfl (Ex.move rfl rfl) ?_
          refine WL.op (v := .pointer (some ⟨b79, 0, none⟩)) rfl rfl rfl (Ex.fieldAddr' fieldAt71_0 rfl rfl) ?_
          refine WL.op (v := .agg x76.k.enc) rfl rfl rfl (Ex.loadA tyAgg61 rfl rfl (Reads.of_block (hS.at 1 rfl) 0 x76.k.enc.toList rfl) rfl) ?_
          refine WL.op (v := .pointer (some ⟨b79, 12, none⟩)) rfl rfl rfl (Ex.fieldAddr' fieldAt71_1 rfl rfl) ?_
          refine WL.op (v := .agg x76.v.enc) rfl rfl rfl (Ex.loadA tyAgg67 rfl rfl (Reads.of_block (hS.at 1 rfl) 12 x76.v.enc.toList rfl) rfl) ?_
          refine WL.update (k := x76.k) (v := x76.v) hS 2 rfl hm2 rfl rfl rfl rfl rfl rfl (fun ob95 W96 hm97 hS => ?_)
          refine WL.nil ?_
          refine inBlock_normal ?_
          refine then_normal ?_
          refine WP.region ?_
          refine WL.op (v := .int .i64 ((q + 1 : Nat) : Int)) rfl rfl rfl (Ex.add rfl rfl rfl (wrap_succ (by omega))) ?_
          refine WL.op (v := .int .i64 ((q + 1 : Nat) : Int)) rfl rfl rfl (Ex.move rfl rfl) ?_
          refine WL.nil ?_
          refine then_normal ?_
          exact ⟨_, ⟨q + 1, ob95, _, fr_keep ⟨rfl, rfl, rfl, rfl, rfl, rfl, rfl, rfl, rfl, rfl, rfl, rfl, trivial⟩, rfl, by omega, hS.drop 2 1, by rw [known_at hx77, upd_none hc85 hc89]; exact hm97⟩, by simp only [id]; omega⟩
    ·
      have hc73' : ¬ ((q : Int) < (li69.length : Int)) := by simpa using hc73
      refine WP.exit ?_
      refine then_exit (then_exit (inBlock_same (?_)))
      refine inBlock_normal ?_
      refine then_normal ?_
      refine WP.region ?_
      refine WL.op (v := .int .i64 ((k + 1 : Nat) : Int)) rfl rfl rfl (Ex.add rfl rfl rfl (wrap_succ (by omega))) ?_
      refine WL.op (v := .int .i64 ((k + 1 : Nat) : Int)) rfl rfl rfl (Ex.move rfl rfl) ?_
      refine WL.nil ?_
      refine then_normal ?_
      exact ⟨_, ⟨k + 1, ob2, _, fr_keep ⟨rfl, rfl, rfl, rfl, rfl, trivial⟩, rfl, by omega, hS.drop 0 2, by
          have e : q = li69.length := by omega
          rw [flat_at hli70]; rw [e, List.take_length] at hm2; exact hm2⟩, by simp only [id]; omega⟩
  ·
    have hc63' : ¬ ((k : Int) < (vs.length : Int)) := by simpa using hc63
    refine WP.exit ?_
    refine then_exit (then_exit (inBlock_same (?_)))
    refine then_normal ?_
    refine WP.seq ?_
    refine WP.region ?_
    refine WL.op (v := .map (some bm59)) rfl rfl rfl (Ex.move rfl rfl) ?_
    obtain rfl : k = vs.length := by omega
    rw [hlen, List.take_length] at hm
    refine WL.call rfl rfl rfl (enterS eg75 (args := [.map (some bm59)]) rfl rfl rfl rfl) (c_state _ (known ls.flatten) _ _ (hS.at 0 rfl) hm (Nat.le_trans (known_length _) hl)) ?_
    rintro e W100 ⟨v98, rfl, hB, hv', hn'⟩
    have hN99 : New w v98 := fun b hb => Nat.le_trans hS.bw.size (hn' b hb)
    replace hS := hS.newPin hB (pinSl v98 (normAt ls.flatten)) hv' hn'
    refine ⟨_, rfl, ?_⟩
    refine WL.op (v := v98) rfl rfl rfl (Ex.assign rfl rfl) ?_
    refine WL.nil ?_
    refine then_normal ?_
    refine WP.ret ?_
    refine ?_
    refine rt1 (v := v98) rfl rfl ?_
    exact ⟨_, rfl, hS.bw, hS.mem (.head _), hN99⟩
set_option maxRecDepth 100000 in
set_option maxHeartbeats 1000000 in
theorem c_norm0 (s : Sv) (l : List At) (w : World) (hv : Sl w s.v l) (hl : l.length ≤ 1048576) :
    Calls Try.prog 25 #[s.v] w fun e w' => ∃ v', e = .returned v' ∧ Bw w w' ∧ Sl w' v' (normAt l) ∧ New w v' := by
  have hS := St.begin (w := w) (pins := pinSl s.v l :: []) ⟨hv, trivial⟩
  refine enter (n := 6) Try.func25 rfl rfl (Nat.le_of_ble_eq_true rfl) (l := [(0, s.v)]) rfl ?_
  refine WP.seq ?_
  refine WP.region ?_
  refine WL.op (v := .slice none 0 0) rfl rfl rfl (Ex.assign rfl rfl) ?_
  refine WL.nil ?_
  refine then_normal ?_
  refine WP.seq ?_
  refine WP.region ?_
  refine WL.op (v := s.v) rfl rfl rfl (Ex.move rfl rfl) ?_
  refine WL.buildSlice (ps := [(0, s.v)]) (C := #[s.v]) (E := 22) rfl (fun _ => by kernel_rfl) hS rfl rfl rfl rfl (fun b101 W102 hS => ?_)
  replace hS := hS.slice (xs := [s]) (cap := 1) rfl (by simp)
  refine WL.call rfl rfl rfl (enterS eg36 (args := [.slice (some ⟨b101, 0, none⟩) 1 1]) rfl rfl rfl rfl) (c_all _ [s] [l] _ (hS.mem (.head _)) (SS.cons (hS.mem (.tail _ (.head _))) (SS.nil)) rfl (by simp; omega)) ?_
  rintro e W105 ⟨v103, rfl, hB, hv', hn'⟩
  have hN104 : New w v103 := fun b hb => Nat.le_trans hS.bw.size (hn' b hb)
  replace hS := hS.newPin hB (pinSl v103 (normAt [l].flatten)) hv' hn'
  refine ⟨_, rfl, ?_⟩
  refine WL.op (v := v103) rfl rfl rfl (Ex.assign rfl rfl) ?_
  refine WL.nil ?_
  refine then_normal ?_
  refine WP.ret ?_
  refine ?_
  refine rt1 (v := v103) rfl rfl ?_
  have hr := hS.mem (.head _)
  simp only [List.flatten_cons, List.flatten_nil, List.append_nil] at hr
  exact ⟨_, rfl, hS.bw, hr, hN104⟩
set_option maxRecDepth 100000 in
set_option maxHeartbeats 1000000 in
theorem c_join0 (s t : Sv) (la lb : List At) (w : World) (ha : Sl w s.v la) (hb : Sl w t.v lb) (hl : la.length + lb.length ≤ 1048576) :
    Calls Try.prog 16 #[s.v, t.v] w fun e w' => ∃ v', e = .returned v' ∧ Bw w w' ∧ Sl w' v' (normAt (la ++ lb)) ∧ New w v' := by
  have hS := St.begin (w := w) (pins := pinSl s.v la :: pinSl t.v lb :: []) ⟨ha, hb, trivial⟩
  refine enter (n := 9) Try.func16 rfl rfl (Nat.le_of_ble_eq_true rfl) (l := [(0, s.v), (1, t.v)]) rfl ?_
  refine WP.seq ?_
  refine WP.region ?_
  refine WL.op (v := .slice none 0 0) rfl rfl rfl (Ex.assign rfl rfl) ?_
  refine WL.nil ?_
  refine then_normal ?_
  refine WP.seq ?_
  refine WP.region ?_
  refine WL.op (v := s.v) rfl rfl rfl (Ex.move rfl rfl) ?_
  refine WL.op (v := t.v) rfl rfl rfl (Ex.move rfl rfl) ?_
  refine WL.buildSlice (ps := [(0, s.v), (1, t.v)]) (C := #[s.v, t.v]) (E := 22) rfl (fun _ => by kernel_rfl) hS rfl rfl rfl rfl (fun b106 W107 hS => ?_)
  replace hS := hS.slice (xs := [s, t]) (cap := 2) rfl (by simp)
  refine WL.call rfl rfl rfl (enterS eg36 (args := [.slice (some ⟨b106, 0, none⟩) 2 2]) rfl rfl rfl rfl) (c_all _ [s, t] [la, lb] _ (hS.mem (.head _)) (SS.cons (hS.mem (.tail _ (.head _))) (SS.cons (hS.mem (.tail _ (.tail _ (.head _)))) (SS.nil))) rfl (by simp; omega)) ?_
  rintro e W110 ⟨v108, rfl, hB, hv', hn'⟩
  have hN109 : New w v108 := fun b hb => Nat.le_trans hS.bw.size (hn' b hb)
  replace hS := hS.newPin hB (pinSl v108 (normAt [la, lb].flatten)) hv' hn'
  refine ⟨_, rfl, ?_⟩
  refine WL.op (v := v108) rfl rfl rfl (Ex.assign rfl rfl) ?_
  refine WL.nil ?_
  refine then_normal ?_
  refine WP.ret ?_
  refine ?_
  refine rt1 (v := v108) rfl rfl ?_
  have hr := hS.mem (.head _)
  simp only [List.flatten_cons, List.flatten_nil, List.append_nil] at hr
  exact ⟨_, rfl, hS.bw, hr, hN109⟩
theorem c_norm (v : Value) (l : List At) (w : World) (hv : Sl w v l) (hl : l.length ≤ 1048576) : Calls Try.prog 25 #[v] w fun e w' => ∃ v', e = .returned v' ∧ Bw w w' ∧ Sl w' v' (normAt l) ∧ New w v' := by
  obtain ⟨p, cap, rfl⟩ := hv.len
  exact c_norm0 ⟨p, l.length, cap⟩ l w hv hl
theorem c_join (v v2 : Value) (la lb : List At) (w : World) (ha : Sl w v la) (hb : Sl w v2 lb) (hl : la.length + lb.length ≤ 1048576) : Calls Try.prog 16 #[v, v2] w fun e w' => ∃ v', e = .returned v' ∧ Bw w w' ∧ Sl w' v' (normAt (la ++ lb)) ∧ New w v' := by
  obtain ⟨p, cap, rfl⟩ := ha.len
  obtain ⟨p2, cap2, rfl⟩ := hb.len
  exact c_join0 ⟨p, la.length, cap⟩ ⟨p2, lb.length, cap2⟩ la lb w ha hb hl
set_option maxRecDepth 100000 in
set_option maxHeartbeats 1000000 in
theorem c_each0 (s : Sv) (w : World) :
    Calls Try.prog 73 #[s.v] w fun e w' => ∃ b, e = .returned (.func (.func 112) #[] #[.pointer (some ⟨b, 0, none⟩)]) ∧ Bw w w' ∧ w'.heap[b]? = some (.cells #[s.v] 22 (0, 0)) ∧ w.heap.size ≤ b := by
  have hS := St.begin (w := w) (pins := []) trivial
  refine enter (n := 4) Try.func73 rfl rfl (Nat.le_of_ble_eq_true rfl) (l := [(0, s.v)]) rfl ?_
  refine WP.seq ?_
  refine WP.region ?_
  refine WL.box (v := s.v) hS rfl rfl rfl rfl rfl (fun b111 W112 hS => ?_)
  refine WL.op (v := .nilFunc) rfl rfl rfl (Ex.assign rfl rfl) ?_
  refine WL.nil ?_
  refine then_normal ?_
  refine WP.seq ?_
  refine WP.region ?_
  refine WL.op (v := .func (.func 112) #[] #[.pointer (some ⟨b111, 0, none⟩)]) rfl rfl rfl (Ex.makeFunc (c' := [.pointer (some ⟨b111, 0, none⟩)]) rfl rfl rfl) ?_
  refine WL.op (v := .func (.func 112) #[] #[.pointer (some ⟨b111, 0, none⟩)]) rfl rfl rfl (Ex.assign rfl rfl) ?_
  refine WL.nil ?_
  refine then_normal ?_
  refine WP.ret ?_
  refine ?_
  refine rt1 (v := .func (.func 112) #[] #[.pointer (some ⟨b111, 0, none⟩)]) rfl rfl ?_
  exact ⟨_, rfl, hS.bw, hS.at 0 rfl, hS.ge 0 rfl⟩
end Go.Proofs.Ythidakffgcjjiaa
