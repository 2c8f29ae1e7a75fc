/- The walks of lat: facts, Meet, Leq, Same, Find. -/
import Derived.Test.YthidakffgcjjiaaIter
import Derived.Test.YthidakffgcjjiaaNorm
namespace Go.Proofs.Ythidakffgcjjiaa
open Go.RowKit Go.Sort

set_option maxRecDepth 100000 in
set_option maxHeartbeats 1000000 in
theorem c_facts (s : Sv) (l : List At) (w : World) (hv : Sl w s.v l) (hl : l.length ≤ 1048576) :
    Calls Try.prog 72 #[s.v] w fun e w' => ∃ b ob, e = .returned (.map (some b)) ∧ Bw w w' ∧ w'.heap[b]? = some ob ∧ MapObj ob ((normAt l).map kvp) ∧ w.heap.size ≤ b := by
  have hS := St.begin (w := w) (pins := pinSl s.v l :: []) ⟨hv, trivial⟩
  refine enterM (n := 17) Try.func72 rfl rfl (Nat.le_of_ble_eq_true rfl) (l := [(0, s.v)]) rfl ?_
  refine WP.seq ?_
  refine WP.region ?_
  refine WL.op (v := .map none) rfl rfl rfl (Ex.assign rfl rfl) ?_
  refine WL.nil ?_
  refine then_normal ?_
  refine WP.seq ?_
  refine WP.region ?_
  refine WL.op (v := s.v) rfl rfl rfl (Ex.move rfl rfl) ?_
  have hl74 : l.length < 4611686018427387904 := (hS.mem (.head _) : Sl _ _ _).lt
  refine WL.op (v := .int .i64 (l.length : Int)) rfl rfl rfl (Ex.lenSl (l := l) ⟨_, under22⟩ rfl rfl (hS.mem (.head _))) ?_
  refine WL.makeMapN (a := (l.length : Int)) undM82 hS rfl rfl rfl rfl rfl (fun bm75 W76 hS => ?_)
  refine WL.alloc zv82 hS rfl rfl rfl rfl (fun b77 W78 hS => ?_)
  refine WL.store tySz82 hS 0 rfl rfl rfl rfl rfl rfl rfl rfl rfl (C' := #[.map (some bm75)]) rfl ((b77, .cells #[.map (some bm75)] 82) :: (bm75, .map #[] 0) :: []) rfl (fun W79 hS => ?_)
  refine WL.nil ?_
  refine then_normal ?_
  refine WP.seq ?_
  refine WP.seq ?_
  refine WP.region ?_
  refine WL.op (v := s.v) rfl rfl rfl (Ex.move rfl rfl) ?_
  refine WL.call rfl rfl rfl (enterS eg73 (args := [s.v]) rfl rfl rfl rfl) (c_each0 s _) ?_
  rintro e W81 ⟨bx80, rfl, hB, hb, hn⟩
  replace hS := hS.adopt hB hb hn
  refine ⟨_, rfl, ?_⟩
  refine WL.nil ?_
  refine then_normal ?_
  refine WP.block ?_
  refine WP.range (it_each bx80 s.v l (by omega)) rfl eg112 (fun _ => rfl) rfl hS (fun k co cp => ∃ (ob : Obj), co = [(bx80, .cells #[s.v] 22), (b77, .cells #[.map (some bm75)] 82), (bm75, ob)] ∧ cp = pinSl s.v l :: [] ∧ (MapObj ob (((normAt l).take k).map kvp))) (fun _ _ _ => False) ⟨_, rfl, rfl, MapObj.new⟩ (fun L D rl rd => ⟨List.mem_append_left _ (.head _), (.head _)⟩) ?_ ?_ ?_
  ·
    rintro k x L it ip _ _ W82 K hx83 ⟨ob, rfl, rfl, hm⟩ hS hK
    refine WP.seq ?_
    refine WP.region ?_
    refine WL.alloc zv61 hS rfl rfl rfl rfl (fun b84 W85 hS => ?_)
    refine WL.store tySz61 hS 0 rfl rfl rfl rfl rfl rfl rfl rfl rfl (C' := x.k.enc) rfl ((b84, .cells x.k.enc 61) :: (bx80, .cells #[s.v] 22) :: (b77, .cells #[.map (some bm75)] 82) :: (bm75, ob) :: it) rfl (fun W86 hS => ?_)
    refine WL.nil ?_
    refine then_normal ?_
    refine WP.region ?_
    refine WL.alloc zv67 hS rfl rfl rfl rfl (fun b87 W88 hS => ?_)
    refine WL.store tySz67 hS 0 rfl rfl rfl rfl rfl rfl rfl rfl rfl (C' := x.v.enc) rfl ((b87, .cells x.v.enc 67) :: (b84, .cells x.k.enc 61) :: (bx80, .cells #[s.v] 22) :: (b77, .cells #[.map (some bm75)] 82) :: (bm75, ob) :: it) rfl (fun W89 hS => ?_)
    refine WL.nil ?_
    refine then_normal ?_
    refine hK _ _ [(b87, .cells x.v.enc 67), (b84, .cells x.k.enc 61), (bx80, .cells #[s.v] 22), (b77, .cells #[.map (some bm75)] 82), (bm75, ob)] [pinSl s.v l] hS (fun it W90 hS => ?_)
    refine WP.block ?_
    refine WP.region ?_
    refine WL.op (v := .map (some bm75)) rfl rfl rfl (Ex.load1 tyOne82 rfl rfl (Reads.of_block (hS.at 3 rfl) 0 [.map (some bm75)] rfl)) ?_
    refine WL.op (v := .agg x.k.enc) rfl rfl rfl (Ex.loadA tyAgg61 rfl rfl (Reads.of_block (hS.at 1 rfl) 0 x.k.enc.toList rfl) rfl) ?_
    refine WL.op (v := .agg x.v.enc) rfl rfl rfl (Ex.loadA tyAgg67 rfl rfl (Reads.of_block (hS.at 0 rfl) 0 x.v.enc.toList rfl) rfl) ?_
    refine WL.update (k := x.k) (v := x.v) hS 4 rfl hm rfl rfl rfl rfl rfl rfl (fun ob91 W92 hm93 hS => ?_)
    refine WL.nil ?_
    refine inBlock_normal ?_
    exact ⟨_, _, ⟨ob91, rfl, rfl, by rw [← facts_next (normAt_rising l) hx83]; exact hm93⟩, hS.drop 2 0⟩
  ·
    rintro D W94 _ _ ⟨ob, rfl, rfl, hm⟩ hS
    rw [List.take_length] at hm
    refine inBlock_normal ?_
    refine then_normal ?_
    refine WP.seq ?_
    refine WP.region ?_
    refine WL.op (v := .map (some bm75)) rfl rfl rfl (Ex.load1 tyOne82 rfl rfl (Reads.of_block (hS.at 1 rfl) 0 [.map (some bm75)] rfl)) ?_
    refine WL.op (v := .map (some bm75)) rfl rfl rfl (Ex.assign rfl rfl) ?_
    refine WL.nil ?_
    refine then_normal ?_
    refine WP.ret ?_
    refine ?_
    refine leaveM (v := .map (some bm75)) hS (i := 3) rfl (fun W95 hS => ?_)
    refine ⟨runs1 rfl rfl, ?_⟩
    exact ⟨_, _, rfl, hS.bw, hS.at 2 rfl, hm, hS.ge 2 rfl⟩
  ·
    exact fun _ _ _ _ _ h _ => h.elim
set_option maxRecDepth 100000 in
set_option maxHeartbeats 1000000 in
theorem c_meet0 (s t : Sv) (la lb : List At) (w : World) (ha : Sl w s.v la) (hb : Sl w t.v lb) (hl : la.length ≤ 1048576) (hl2 : lb.length ≤ 1048576) :
    Calls Try.prog 18 #[s.v, t.v] w fun e w' => ∃ v', e = .returned v' ∧ Bw w w' ∧ Sl w' v' (meetAt la lb) ∧ New w v' := by
  have hS := St.begin (w := w) (pins := pinSl s.v la :: pinSl t.v lb :: []) ⟨ha, hb, trivial⟩
  refine enterM (n := 35) Try.func18 rfl rfl (Nat.le_of_ble_eq_true rfl) (l := [(0, s.v), (1, t.v)]) rfl ?_
  refine WP.seq ?_
  refine WP.region ?_
  refine WL.op (v := .slice none 0 0) rfl rfl rfl (Ex.assign rfl rfl) ?_
  refine WL.nil ?_
  refine then_normal ?_
  refine WP.seq ?_
  refine WP.region ?_
  refine WL.op (v := t.v) rfl rfl rfl (Ex.move rfl rfl) ?_
  refine WL.call rfl rfl rfl (enterS eg72 (args := [t.v]) rfl rfl rfl rfl) (c_facts t lb _ (hS.mem (.tail _ (.head _))) (by first | omega | (simp; done) | (simp; omega))) ?_
  rintro e W100 ⟨bf97, ob98, rfl, hB, hb, hm99, hn⟩
  replace hS := hS.adopt hB hb hn
  refine ⟨_, rfl, ?_⟩
  refine WL.makeMap hS rfl rfl rfl rfl rfl (fun bm101 W102 hS => ?_)
  refine WL.alloc zv82 hS rfl rfl rfl rfl (fun b103 W104 hS => ?_)
  refine WL.alloc zv82 hS rfl rfl rfl rfl (fun b105 W106 hS => ?_)
  refine WL.store tySz82 hS 1 rfl rfl rfl rfl rfl rfl rfl rfl rfl (C' := #[.map (some bf97)]) rfl ((b105, .cells #[.map none] 82) :: (b103, .cells #[.map (some bf97)] 82) :: (bm101, .map #[] 0) :: (bf97, ob98) :: []) rfl (fun W107 hS => ?_)
  refine WL.store tySz82 hS 0 rfl rfl rfl rfl rfl rfl rfl rfl rfl (C' := #[.map (some bm101)]) rfl ((b105, .cells #[.map (some bm101)] 82) :: (b103, .cells #[.map (some bf97)] 82) :: (bm101, .map #[] 0) :: (bf97, ob98) :: []) rfl (fun W108 hS => ?_)
  refine WL.nil ?_
  refine then_normal ?_
  refine WP.seq ?_
  refine WP.seq ?_
  refine WP.region ?_
  refine WL.op (v := s.v) rfl rfl rfl (Ex.move rfl rfl) ?_
  refine WL.call rfl rfl rfl (enterS eg73 (args := [s.v]) rfl rfl rfl rfl) (c_each0 s _) ?_
  rintro e W110 ⟨bx109, rfl, hB, hb, hn⟩
  replace hS := hS.adopt hB hb hn
  refine ⟨_, rfl, ?_⟩
  refine WL.nil ?_
  refine then_normal ?_
  refine WP.block ?_
  refine WP.range (it_each bx109 s.v la (by omega)) rfl eg112 (fun _ => rfl) rfl hS (fun k co cp => ∃ (ob : Obj), co = [(bx109, .cells #[s.v] 22), (b105, .cells #[.map (some bm101)] 82), (b103, .cells #[.map (some bf97)] 82), (bm101, ob), (bf97, ob98)] ∧ cp = pinSl s.v la :: pinSl t.v lb :: [] ∧ (MapObj ob (meetL ((normAt la).take k) ((normAt lb).map kvp)))) (fun _ _ _ => False) ⟨_, rfl, rfl, MapObj.new⟩ (fun L D rl rd => ⟨List.mem_append_left _ (.head _), (.head _)⟩) ?_ ?_ ?_
  ·
    rintro k x L it ip _ _ W111 K hx112 ⟨ob, rfl, rfl, hm⟩ hS hK
    refine WP.seq ?_
    refine WP.region ?_
    refine WL.alloc zv61 hS rfl rfl rfl rfl (fun b113 W114 hS => ?_)
    refine WL.store tySz61 hS 0 rfl rfl rfl rfl rfl rfl rfl rfl rfl (C' := x.k.enc) rfl ((b113, .cells x.k.enc 61) :: (bx109, .cells #[s.v] 22) :: (b105, .cells #[.map (some bm101)] 82) :: (b103, .cells #[.map (some bf97)] 82) :: (bm101, ob) :: (bf97, ob98) :: it) rfl (fun W115 hS => ?_)
    refine WL.nil ?_
    refine then_normal ?_
    refine WP.region ?_
    refine WL.alloc zv67 hS rfl rfl rfl rfl (fun b116 W117 hS => ?_)
    refine WL.store tySz67 hS 0 rfl rfl rfl rfl rfl rfl rfl rfl rfl (C' := x.v.enc) rfl ((b116, .cells x.v.enc 67) :: (b113, .cells x.k.enc 61) :: (bx109, .cells #[s.v] 22) :: (b105, .cells #[.map (some bm101)] 82) :: (b103, .cells #[.map (some bf97)] 82) :: (bm101, ob) :: (bf97, ob98) :: it) rfl (fun W118 hS => ?_)
    refine WL.nil ?_
    refine then_normal ?_
    refine hK _ _ [(b116, .cells x.v.enc 67), (b113, .cells x.k.enc 61), (bx109, .cells #[s.v] 22), (b105, .cells #[.map (some bm101)] 82), (b103, .cells #[.map (some bf97)] 82), (bm101, ob), (bf97, ob98)] [pinSl s.v la, pinSl t.v lb] hS (fun it W119 hS => ?_)
    refine WP.block ?_
    refine WP.seq ?_
    refine WP.region ?_
    refine WL.op (v := .map (some bf97)) rfl rfl rfl (Ex.load1 tyOne82 rfl rfl (Reads.of_block (hS.at 4 rfl) 0 [.map (some bf97)] rfl)) ?_
    refine WL.op (v := .agg x.k.enc) rfl rfl rfl (Ex.loadA tyAgg61 rfl rfl (Reads.of_block (hS.at 1 rfl) 0 x.k.enc.toList rfl) rfl) ?_
    refine WL.op (v := .tuple #[.agg ((look ((normAt lb).map kvp) x.k).getD Vl.zero).enc, .bool ((look ((normAt lb).map kvp) x.k).isSome)]) rfl rfl rfl (Ex.lookupM (hS.at 6 rfl) hm99 rfl rfl rfl) ?_
    refine WL.op (v := .tuple #[.agg ((look ((normAt lb).map kvp) x.k).getD Vl.zero).enc, .bool ((look ((normAt lb).map kvp) x.k).isSome)]) rfl rfl rfl (Ex.move rfl rfl) ?_
    refine WL.op (v := .agg ((look ((normAt lb).map kvp) x.k).getD Vl.zero).enc) rfl rfl rfl (Ex.extract rfl rfl rfl) ?_
    refine WL.op (v := .bool ((look ((normAt lb).map kvp) x.k).isSome)) rfl rfl rfl (Ex.extract rfl rfl rfl) ?_
    refine WL.alloc zv67 hS rfl rfl rfl rfl (fun b120 W121 hS => ?_)
    refine WL.store tySz67 hS 0 rfl rfl rfl rfl rfl rfl rfl rfl rfl (C' := ((look ((normAt lb).map kvp) x.k).getD Vl.zero).enc) rfl ((b120, .cells ((look ((normAt lb).map kvp) x.k).getD Vl.zero).enc 67) :: (b116, .cells x.v.enc 67) :: (b113, .cells x.k.enc 61) :: (bx109, .cells #[s.v] 22) :: (b105, .cells #[.map (some bm101)] 82) :: (b103, .cells #[.map (some bf97)] 82) :: (bm101, ob) :: (bf97, ob98) :: it) rfl (fun W122 hS => ?_)
    refine WL.op (v := .bool ((look ((normAt lb).map kvp) x.k).isSome)) rfl rfl rfl (Ex.assign rfl rfl) ?_
    refine WL.nil ?_
    refine then_normal ?_
    refine WP.seq ?_
    refine WP.seq ?_
    refine WP.region ?_
    refine WL.op (v := .bool ((look ((normAt lb).map kvp) x.k).isSome)) rfl rfl rfl (Ex.move rfl rfl) ?_
    refine WL.op (v := .bool (!((look ((normAt lb).map kvp) x.k).isSome))) rfl rfl rfl (Ex.not rfl rfl) ?_
    refine WL.nil ?_
    refine then_normal ?_
    refine WP.cond (b := !((look ((normAt lb).map kvp) x.k).isSome)) rfl (fun hc123 => ?_) (fun hc123 => ?_)
    ·
      have hc124 : ((look ((normAt lb).map kvp) x.k).isSome) = false := by simpa using hc123
      refine WP.exit ?_
      refine then_exit (inBlock_same (?_))
      exact ⟨_, _, ⟨ob, rfl, rfl, by rw [meetL_skip hx112 hc124]; exact hm⟩, hS.drop 3 0⟩
    ·
      have hc125 : ((look ((normAt lb).map kvp) x.k).isSome) = true := by simpa using hc123
      refine WP.skip ?_
      refine then_normal ?_
      refine WP.seq ?_
      refine WP.seq ?_
      refine WP.region ?_
      refine WL.op (v := .agg x.v.enc) rfl rfl rfl (Ex.loadA tyAgg67 rfl rfl (Reads.of_block (hS.at 1 rfl) 0 x.v.enc.toList rfl) rfl) ?_
      refine WL.op (v := .agg ((look ((normAt lb).map kvp) x.k).getD Vl.zero).enc) rfl rfl rfl (Ex.loadA tyAgg67 rfl rfl (Reads.of_block (hS.at 0 rfl) 0 ((look ((normAt lb).map kvp) x.k).getD Vl.zero).enc.toList rfl) rfl) ?_
      refine WL.call rfl rfl rfl (enterS eg74 (args := [.agg x.v.enc, .agg ((look ((normAt lb).map kvp) x.k).getD Vl.zero).enc]) rfl rfl rfl rfl) (c_over x.v ((look ((normAt lb).map kvp) x.k).getD Vl.zero) _) ?_
      rintro e W126 ⟨rfl, hB⟩
      replace hS := hS.ext hB
      refine ⟨_, rfl, ?_⟩
      refine WL.nil ?_
      refine then_normal ?_
      refine WP.cond (b := x.v.over ((look ((normAt lb).map kvp) x.k).getD Vl.zero)) rfl (fun hc127 => ?_) (fun hc127 => ?_)
      ·
        refine WP.region ?_
        refine WL.op (v := .agg ((look ((normAt lb).map kvp) x.k).getD Vl.zero).enc) rfl rfl rfl (Ex.loadA tyAgg67 rfl rfl (Reads.of_block (hS.at 0 rfl) 0 ((look ((normAt lb).map kvp) x.k).getD Vl.zero).enc.toList rfl) rfl) ?_
        refine WL.store tySz67 hS 1 rfl rfl rfl rfl rfl rfl rfl rfl rfl (C' := ((look ((normAt lb).map kvp) x.k).getD Vl.zero).enc) rfl ((b120, .cells ((look ((normAt lb).map kvp) x.k).getD Vl.zero).enc 67) :: (b116, .cells ((look ((normAt lb).map kvp) x.k).getD Vl.zero).enc 67) :: (b113, .cells x.k.enc 61) :: (bx109, .cells #[s.v] 22) :: (b105, .cells #[.map (some bm101)] 82) :: (b103, .cells #[.map (some bf97)] 82) :: (bm101, ob) :: (bf97, ob98) :: it) rfl (fun W128 hS => ?_)
        refine WL.nil ?_
        refine then_normal ?_
        refine WP.region ?_
        refine WL.op (v := .map (some bm101)) rfl rfl rfl (Ex.load1 tyOne82 rfl rfl (Reads.of_block (hS.at 4 rfl) 0 [.map (some bm101)] rfl)) ?_
        refine WL.op (v := .agg x.k.enc) rfl rfl rfl (Ex.loadA tyAgg61 rfl rfl (Reads.of_block (hS.at 2 rfl) 0 x.k.enc.toList rfl) rfl) ?_
        refine WL.op (v := .agg ((look ((normAt lb).map kvp) x.k).getD Vl.zero).enc) rfl rfl rfl (Ex.loadA tyAgg67 rfl rfl (Reads.of_block (hS.at 1 rfl) 0 ((look ((normAt lb).map kvp) x.k).getD Vl.zero).enc.toList rfl) rfl) ?_
        refine WL.update (k := x.k) (v := (look ((normAt lb).map kvp) x.k).getD Vl.zero) hS 6 rfl hm rfl rfl rfl rfl rfl rfl (fun ob129 W130 hm131 hS => ?_)
        refine WL.nil ?_
        refine inBlock_normal ?_
        exact ⟨_, _, ⟨ob129, rfl, rfl, by rw [← meetL_next (normAt_rising la) hx112 hc125 (by rw [hc127])]; exact hm131⟩, hS.drop 3 0⟩
      ·
        refine WP.skip ?_
        refine then_normal ?_
        refine WP.region ?_
        refine WL.op (v := .map (some bm101)) rfl rfl rfl (Ex.load1 tyOne82 rfl rfl (Reads.of_block (hS.at 4 rfl) 0 [.map (some bm101)] rfl)) ?_
        refine WL.op (v := .agg x.k.enc) rfl rfl rfl (Ex.loadA tyAgg61 rfl rfl (Reads.of_block (hS.at 2 rfl) 0 x.k.enc.toList rfl) rfl) ?_
        refine WL.op (v := .agg x.v.enc) rfl rfl rfl (Ex.loadA tyAgg67 rfl rfl (Reads.of_block (hS.at 1 rfl) 0 x.v.enc.toList rfl) rfl) ?_
        refine WL.update (k := x.k) (v := x.v) hS 6 rfl hm rfl rfl rfl rfl rfl rfl (fun ob132 W133 hm134 hS => ?_)
        refine WL.nil ?_
        refine inBlock_normal ?_
        exact ⟨_, _, ⟨ob132, rfl, rfl, by rw [← meetL_next (normAt_rising la) hx112 hc125 (by rw [hc127])]; exact hm134⟩, hS.drop 3 0⟩
  ·
    rintro D W135 _ _ ⟨ob, rfl, rfl, hm⟩ hS
    rw [List.take_length] at hm
    refine inBlock_normal ?_
    refine then_normal ?_
    refine WP.seq ?_
    refine WP.region ?_
    refine WL.op (v := .map (some bm101)) rfl rfl rfl (Ex.load1 tyOne82 rfl rfl (Reads.of_block (hS.at 1 rfl) 0 [.map (some bm101)] rfl)) ?_
    refine WL.call rfl rfl rfl (enterS eg75 (args := [.map (some bm101)]) rfl rfl rfl rfl) (c_state _ (meetL (normAt la) ((normAt lb).map kvp)) _ _ (hS.at 3 rfl) hm (Nat.le_trans (meetL_length _ _) (Nat.le_trans (normAt_length la) hl))) ?_
    rintro e W138 ⟨v136, rfl, hB, hv', hn'⟩
    have hN137 : New w v136 := fun b hb => Nat.le_trans hS.bw.size (hn' b hb)
    replace hS := hS.newPin hB (pinSl v136 (meetAt la lb)) hv' hn'
    refine ⟨_, rfl, ?_⟩
    refine WL.op (v := v136) rfl rfl rfl (Ex.assign rfl rfl) ?_
    refine WL.nil ?_
    refine then_normal ?_
    refine WP.ret ?_
    refine ?_
    refine leaveM (v := v136) hS (i := 5) rfl (fun W139 hS => ?_)
    refine ⟨runs1 rfl rfl, ?_⟩
    exact ⟨_, rfl, hS.bw, hS.mem (.head _), hN137⟩
  ·
    exact fun _ _ _ _ _ h _ => h.elim
set_option maxRecDepth 100000 in
set_option maxHeartbeats 1000000 in
theorem c_leq0 (s t : Sv) (la lb : List At) (w : World) (ha : Sl w s.v la) (hb : Sl w t.v lb) (hl : la.length ≤ 1048576) (hl2 : lb.length ≤ 1048576) :
    Calls Try.prog 20 #[s.v, t.v] w fun e w' => e = .returned (.bool (leqAt la lb)) ∧ Bw w w' := by
  have hS := St.begin (w := w) (pins := pinSl s.v la :: pinSl t.v lb :: []) ⟨ha, hb, trivial⟩
  refine enterM (n := 30) Try.func20 rfl rfl (Nat.le_of_ble_eq_true rfl) (l := [(0, s.v), (1, t.v)]) rfl ?_
  refine WP.seq ?_
  refine WP.region ?_
  refine WL.alloc zv4 hS rfl rfl rfl rfl (fun b141 W142 hS => ?_)
  refine WL.nil ?_
  refine then_normal ?_
  refine WP.seq ?_
  refine WP.region ?_
  refine WL.op (v := t.v) rfl rfl rfl (Ex.move rfl rfl) ?_
  refine WL.call rfl rfl rfl (enterS eg72 (args := [t.v]) rfl rfl rfl rfl) (c_facts t lb _ (hS.mem (.tail _ (.head _))) (by first | omega | (simp; done) | (simp; omega))) ?_
  rintro e W146 ⟨bf143, ob144, rfl, hB, hb, hm145, hn⟩
  replace hS := hS.adopt hB hb hn
  refine ⟨_, rfl, ?_⟩
  refine WL.alloc zv82 hS rfl rfl rfl rfl (fun b147 W148 hS => ?_)
  refine WL.store tySz82 hS 0 rfl rfl rfl rfl rfl rfl rfl rfl rfl (C' := #[.map (some bf143)]) rfl ((b147, .cells #[.map (some bf143)] 82) :: (bf143, ob144) :: (b141, .cells #[.bool false] 4) :: []) rfl (fun W149 hS => ?_)
  refine WL.nil ?_
  refine then_normal ?_
  refine WP.seq ?_
  refine WP.seq ?_
  refine WP.region ?_
  refine WL.op (v := s.v) rfl rfl rfl (Ex.move rfl rfl) ?_
  refine WL.call rfl rfl rfl (enterS eg73 (args := [s.v]) rfl rfl rfl rfl) (c_each0 s _) ?_
  rintro e W151 ⟨bx150, rfl, hB, hb, hn⟩
  replace hS := hS.adopt hB hb hn
  refine ⟨_, rfl, ?_⟩
  refine WL.nil ?_
  refine then_normal ?_
  refine WP.block ?_
  refine WP.range (it_each bx150 s.v la (by omega)) rfl eg112 (fun _ => rfl) rfl hS (fun k co cp => co = [(bx150, .cells #[s.v] 22), (b147, .cells #[.map (some bf143)] 82), (bf143, ob144), (b141, .cells #[.bool false] 4)] ∧ cp = pinSl s.v la :: pinSl t.v lb :: [] ∧ (((normAt la).take k).all (belowM ((normAt lb).map kvp)) = true)) (fun c co cp => (c = .ret ∧ co = [(bx150, .cells #[s.v] 22), (b147, .cells #[.map (some bf143)] 82), (bf143, ob144), (b141, .cells #[.bool false] 4)] ∧ cp = pinSl s.v la :: pinSl t.v lb :: [] ∧ ((normAt la).all (belowM ((normAt lb).map kvp)) = false))) ⟨rfl, rfl, rfl⟩ (fun L D rl rd => ⟨List.mem_append_left _ (.head _), (.head _)⟩) ?_ ?_ ?_
  ·
    rintro k x L it ip _ _ W152 K hx153 ⟨rfl, rfl, hall⟩ hS hK
    refine WP.seq ?_
    refine WP.region ?_
    refine WL.alloc zv61 hS rfl rfl rfl rfl (fun b154 W155 hS => ?_)
    refine WL.store tySz61 hS 0 rfl rfl rfl rfl rfl rfl rfl rfl rfl (C' := x.k.enc) rfl ((b154, .cells x.k.enc 61) :: (bx150, .cells #[s.v] 22) :: (b147, .cells #[.map (some bf143)] 82) :: (bf143, ob144) :: (b141, .cells #[.bool false] 4) :: it) rfl (fun W156 hS => ?_)
    refine WL.nil ?_
    refine then_normal ?_
    refine WP.region ?_
    refine WL.alloc zv67 hS rfl rfl rfl rfl (fun b157 W158 hS => ?_)
    refine WL.store tySz67 hS 0 rfl rfl rfl rfl rfl rfl rfl rfl rfl (C' := x.v.enc) rfl ((b157, .cells x.v.enc 67) :: (b154, .cells x.k.enc 61) :: (bx150, .cells #[s.v] 22) :: (b147, .cells #[.map (some bf143)] 82) :: (bf143, ob144) :: (b141, .cells #[.bool false] 4) :: it) rfl (fun W159 hS => ?_)
    refine WL.nil ?_
    refine then_normal ?_
    refine hK _ _ [(b157, .cells x.v.enc 67), (b154, .cells x.k.enc 61), (bx150, .cells #[s.v] 22), (b147, .cells #[.map (some bf143)] 82), (bf143, ob144), (b141, .cells #[.bool false] 4)] [pinSl s.v la, pinSl t.v lb] hS (fun it W160 hS => ?_)
    refine WP.block ?_
    refine WP.seq ?_
    refine WP.region ?_
    refine WL.op (v := .map (some bf143)) rfl rfl rfl (Ex.load1 tyOne82 rfl rfl (Reads.of_block (hS.at 3 rfl) 0 [.map (some bf143)] rfl)) ?_
    refine WL.op (v := .agg x.k.enc) rfl rfl rfl (Ex.loadA tyAgg61 rfl rfl (Reads.of_block (hS.at 1 rfl) 0 x.k.enc.toList rfl) rfl) ?_
    refine WL.op (v := .tuple #[.agg ((look ((normAt lb).map kvp) x.k).getD Vl.zero).enc, .bool ((look ((normAt lb).map kvp) x.k).isSome)]) rfl rfl rfl (Ex.lookupM (hS.at 4 rfl) hm145 rfl rfl rfl) ?_
    refine WL.op (v := .tuple #[.agg ((look ((normAt lb).map kvp) x.k).getD Vl.zero).enc, .bool ((look ((normAt lb).map kvp) x.k).isSome)]) rfl rfl rfl (Ex.move rfl rfl) ?_
    refine WL.op (v := .agg ((look ((normAt lb).map kvp) x.k).getD Vl.zero).enc) rfl rfl rfl (Ex.extract rfl rfl rfl) ?_
    refine WL.op (v := .bool ((look ((normAt lb).map kvp) x.k).isSome)) rfl rfl rfl (Ex.extract rfl rfl rfl) ?_
    refine WL.alloc zv67 hS rfl rfl rfl rfl (fun b161 W162 hS => ?_)
    refine WL.store tySz67 hS 0 rfl rfl rfl rfl rfl rfl rfl rfl rfl (C' := ((look ((normAt lb).map kvp) x.k).getD Vl.zero).enc) rfl ((b161, .cells ((look ((normAt lb).map kvp) x.k).getD Vl.zero).enc 67) :: (b157, .cells x.v.enc 67) :: (b154, .cells x.k.enc 61) :: (bx150, .cells #[s.v] 22) :: (b147, .cells #[.map (some bf143)] 82) :: (bf143, ob144) :: (b141, .cells #[.bool false] 4) :: it) rfl (fun W163 hS => ?_)
    refine WL.op (v := .bool ((look ((normAt lb).map kvp) x.k).isSome)) rfl rfl rfl (Ex.assign rfl rfl) ?_
    refine WL.nil ?_
    refine then_normal ?_
    refine WP.seq ?_
    refine WP.region ?_
    refine WL.op (v := .bool ((look ((normAt lb).map kvp) x.k).isSome)) rfl rfl rfl (Ex.move rfl rfl) ?_
    refine WL.op (v := .bool (!((look ((normAt lb).map kvp) x.k).isSome))) rfl rfl rfl (Ex.not rfl rfl) ?_
    refine WL.op (v := .bool (!((look ((normAt lb).map kvp) x.k).isSome))) rfl rfl rfl (Ex.move rfl rfl) ?_
    rcases Bool.eq_false_or_eq_true (!((look ((normAt lb).map kvp) x.k).isSome)) with hg164 | hg164
    ·
      have hc165 : ((look ((normAt lb).map kvp) x.k).isSome) = false := by simpa using hg164
      refine WL.off (b' := true) rfl rfl rfl rfl rfl rfl (congrArg Value.bool hg164) rfl ?_
      refine WL.off (b' := true) rfl rfl rfl rfl rfl rfl (congrArg Value.bool hg164) rfl ?_
      refine WL.off (b' := true) rfl rfl rfl rfl rfl rfl (congrArg Value.bool hg164) rfl ?_
      refine WL.off (b' := true) rfl rfl rfl rfl rfl rfl (congrArg Value.bool hg164) rfl ?_
      refine WL.op (v := .bool true) rfl rfl rfl (Ex.pickT rfl (congrArg Value.bool hg164) rfl) ?_
      refine WL.nil ?_
      refine then_normal ?_
      refine WP.condT rfl ?_
      refine WP.seq ?_
      refine WP.region ?_
      refine WL.store tySz4 hS 6 rfl rfl rfl rfl rfl rfl rfl rfl rfl (C' := #[.bool false]) rfl ((b161, .cells ((look ((normAt lb).map kvp) x.k).getD Vl.zero).enc 67) :: (b157, .cells x.v.enc 67) :: (b154, .cells x.k.enc 61) :: (bx150, .cells #[s.v] 22) :: (b147, .cells #[.map (some bf143)] 82) :: (bf143, ob144) :: (b141, .cells #[.bool false] 4) :: it) rfl (fun W166 hS => ?_)
      refine WL.nil ?_
      refine then_normal ?_
      refine WP.ret ?_
      refine inBlock_ret (?_)
      exact ⟨_, _, ⟨rfl, rfl, rfl, all_not hx153 (belowM_none hc165)⟩, hS.drop 3 0⟩
    ·
      have hc167 : ((look ((normAt lb).map kvp) x.k).isSome) = true := by simpa using hg164
      refine WL.on rfl rfl rfl (congrArg Value.bool hg164) ?_
      refine WL.op (v := .agg ((look ((normAt lb).map kvp) x.k).getD Vl.zero).enc) rfl rfl rfl (Ex.loadA tyAgg67 rfl rfl (Reads.of_block (hS.at 0 rfl) 0 ((look ((normAt lb).map kvp) x.k).getD Vl.zero).enc.toList rfl) rfl) ?_
      refine WL.on rfl rfl rfl (congrArg Value.bool hg164) ?_
      refine WL.op (v := .agg x.v.enc) rfl rfl rfl (Ex.loadA tyAgg67 rfl rfl (Reads.of_block (hS.at 1 rfl) 0 x.v.enc.toList rfl) rfl) ?_
      refine WL.on rfl rfl rfl (congrArg Value.bool hg164) ?_
      refine WL.call rfl rfl rfl (enterS eg74 (args := [.agg ((look ((normAt lb).map kvp) x.k).getD Vl.zero).enc, .agg x.v.enc]) rfl rfl rfl rfl) (c_over ((look ((normAt lb).map kvp) x.k).getD Vl.zero) x.v _) ?_
      rintro e W168 ⟨rfl, hB⟩
      replace hS := hS.ext hB
      refine ⟨_, rfl, ?_⟩
      refine WL.on rfl rfl rfl (congrArg Value.bool hg164) ?_
      refine WL.op (v := .bool (!(((look ((normAt lb).map kvp) x.k).getD Vl.zero).over x.v))) rfl rfl rfl (Ex.not rfl rfl) ?_
      refine WL.op (v := .bool (!(((look ((normAt lb).map kvp) x.k).getD Vl.zero).over x.v))) rfl rfl rfl (Ex.pickF rfl (congrArg Value.bool hg164) rfl) ?_
      refine WL.nil ?_
      refine then_normal ?_
      refine WP.cond (b := !(((look ((normAt lb).map kvp) x.k).getD Vl.zero).over x.v)) rfl (fun hc169 => ?_) (fun hc169 => ?_)
      ·
        have hc170 : (((look ((normAt lb).map kvp) x.k).getD Vl.zero).over x.v) = false := by simpa using hc169
        refine WP.seq ?_
        refine WP.region ?_
        refine WL.store tySz4 hS 6 rfl rfl rfl rfl rfl rfl rfl rfl rfl (C' := #[.bool false]) rfl ((b161, .cells ((look ((normAt lb).map kvp) x.k).getD Vl.zero).enc 67) :: (b157, .cells x.v.enc 67) :: (b154, .cells x.k.enc 61) :: (bx150, .cells #[s.v] 22) :: (b147, .cells #[.map (some bf143)] 82) :: (bf143, ob144) :: (b141, .cells #[.bool false] 4) :: it) rfl (fun W171 hS => ?_)
        refine WL.nil ?_
        refine then_normal ?_
        refine WP.ret ?_
        refine inBlock_ret (?_)
        exact ⟨_, _, ⟨rfl, rfl, rfl, all_not hx153 ((belowM_some hc167).trans hc170)⟩, hS.drop 3 0⟩
      ·
        have hc172 : (((look ((normAt lb).map kvp) x.k).getD Vl.zero).over x.v) = true := by simpa using hc169
        refine WP.skip ?_
        refine inBlock_normal ?_
        exact ⟨_, _, ⟨rfl, rfl, all_next hx153 hall ((belowM_some hc167).trans hc172)⟩, hS.drop 3 0⟩
  ·
    rintro D W173 _ _ ⟨rfl, rfl, hall⟩ hS
    rw [List.take_length] at hall
    refine inBlock_normal ?_
    refine then_normal ?_
    refine WP.seq ?_
    refine WP.region ?_
    refine WL.store tySz4 hS 3 rfl rfl rfl rfl rfl rfl rfl rfl rfl (C' := #[.bool true]) rfl ((bx150, .cells #[s.v] 22) :: (b147, .cells #[.map (some bf143)] 82) :: (bf143, ob144) :: (b141, .cells #[.bool true] 4) :: (D, .deferred (some [])) :: []) rfl (fun W174 hS => ?_)
    refine WL.nil ?_
    refine then_normal ?_
    refine WP.ret ?_
    refine ?_
    refine leaveM (v := .bool true) hS (i := 4) rfl (fun W175 hS => ?_)
    refine ⟨runsC (v := .bool true) rfl tyOne4 rfl (Reads.of_block (hS.at 3 rfl) 0 _ rfl), ?_⟩
    exact ⟨by rw [show leqAt la lb = true from hall], hS.bw⟩
  ·
    rintro c D W176 _ _ ⟨rfl, rfl, rfl, hall⟩ hS
    refine WP.ret ?_
    refine inBlock_ret (then_ret (?_))
    refine leaveM (v := .bool false) hS (i := 4) rfl (fun W177 hS => ?_)
    refine ⟨runsC (v := .bool false) rfl tyOne4 rfl (Reads.of_block (hS.at 3 rfl) 0 _ rfl), ?_⟩
    exact ⟨by rw [show leqAt la lb = false from hall], hS.bw⟩
set_option maxRecDepth 100000 in
set_option maxHeartbeats 1000000 in
theorem c_same (v v2 : Value) (la lb : List At) (w : World) (ha : Sl w v la) (hb : Sl w v2 lb) (hl : la.length ≤ 1048576) (hl2 : lb.length ≤ 1048576) :
    Calls Try.prog 22 #[v, v2] w fun e w' => e = .returned (.bool (decide (normAt la = normAt lb))) ∧ Bw w w' := by
  have hS := St.begin (w := w) (pins := pinSl v la :: pinSl v2 lb :: []) ⟨ha, hb, trivial⟩
  refine enter (n := 10) Try.func22 rfl rfl (Nat.le_of_ble_eq_true rfl) (l := [(0, v), (1, v2)]) rfl ?_
  refine WP.seq ?_
  refine WP.region ?_
  refine WL.op (v := .bool false) rfl rfl rfl (Ex.assign rfl rfl) ?_
  refine WL.nil ?_
  refine then_normal ?_
  refine WP.seq ?_
  refine WP.region ?_
  refine WL.op (v := v) rfl rfl rfl (Ex.move rfl rfl) ?_
  refine WL.call rfl rfl rfl (enterS eg25 (args := [v]) rfl rfl rfl rfl) (c_norm _ la _ (hS.mem (.head _)) (by first | omega | (simp; done) | (simp; omega))) ?_
  rintro e W180 ⟨v178, rfl, hB, hv', hn'⟩
  have hN179 : New w v178 := fun b hb => Nat.le_trans hS.bw.size (hn' b hb)
  replace hS := hS.newPin hB (pinSl v178 (normAt la)) hv' hn'
  refine ⟨_, rfl, ?_⟩
  have hq181 := normAt_length la
  refine WL.op (v := v2) rfl rfl rfl (Ex.move rfl rfl) ?_
  refine WL.call rfl rfl rfl (enterS eg25 (args := [v2]) rfl rfl rfl rfl) (c_norm _ lb _ (hS.mem (.tail _ (.tail _ (.head _)))) (by first | omega | (simp; done) | (simp; omega))) ?_
  rintro e W184 ⟨v182, rfl, hB, hv', hn'⟩
  have hN183 : New w v182 := fun b hb => Nat.le_trans hS.bw.size (hn' b hb)
  replace hS := hS.newPin hB (pinSl v182 (normAt lb)) hv' hn'
  refine ⟨_, rfl, ?_⟩
  have hq185 := normAt_length lb
  refine WL.call rfl rfl rfl (enterS eg78 (args := [v178, v182]) rfl rfl rfl rfl) (c_equal _ _ (normAt la) (normAt lb) _ (hS.mem (.tail _ (.head _))) (hS.mem (.head _))) ?_
  rintro e W186 ⟨rfl, hB⟩
  replace hS := hS.ext hB
  refine ⟨_, rfl, ?_⟩
  refine WL.op (v := .bool (decide (normAt la = normAt lb))) rfl rfl rfl (Ex.assign rfl rfl) ?_
  refine WL.nil ?_
  refine then_normal ?_
  refine WP.ret ?_
  refine ?_
  refine rt1 (v := .bool (decide (normAt la = normAt lb))) rfl rfl ?_
  exact ⟨rfl, hS.bw⟩
theorem c_meet (v v2 : Value) (la lb : List At) (w : World) (ha : Sl w v la) (hb : Sl w v2 lb) (hl : la.length ≤ 1048576) (hl2 : lb.length ≤ 1048576) : Calls Try.prog 18 #[v, v2] w fun e w' => ∃ v', e = .returned v' ∧ Bw w w' ∧ Sl w' v' (meetAt la lb) ∧ New w v' := by
  obtain ⟨p, cap, rfl⟩ := ha.len
  obtain ⟨p2, cap2, rfl⟩ := hb.len
  exact c_meet0 ⟨p, la.length, cap⟩ ⟨p2, lb.length, cap2⟩ la lb w ha hb hl hl2
theorem c_leq (v v2 : Value) (la lb : List At) (w : World) (ha : Sl w v la) (hb : Sl w v2 lb) (hl : la.length ≤ 1048576) (hl2 : lb.length ≤ 1048576) : Calls Try.prog 20 #[v, v2] w fun e w' => e = .returned (.bool (leqAt la lb)) ∧ Bw w w' := by
  obtain ⟨p, cap, rfl⟩ := ha.len
  obtain ⟨p2, cap2, rfl⟩ := hb.len
  exact c_leq0 ⟨p, la.length, cap⟩ ⟨p2, lb.length, cap2⟩ la lb w ha hb hl hl2
end Go.Proofs.Ythidakffgcjjiaa
